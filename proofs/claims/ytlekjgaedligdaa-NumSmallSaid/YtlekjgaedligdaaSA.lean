/-
  Plain tools of this repo: append, strings of bytes, maps.
-/
import Derived.Test.YtlekjgaedligdaaS9
namespace Bw
open Go Go.RowKit

variable {P : Program} {C : Ctx} {ops : Array Oper} {K : Post} {dr : Bool} {i t : Nat} {is : List Nat} {T : Tm} {H : Hp} {log : Log} {ty : TypeId} {ps : String} {af : Array Edge} {gd : Option (Nat × Bool)}

/-! ### Where appended cells come from -/
def SrcOk (P : Program) (w : World) (size m : Nat) (x : Value) (news : List Value) : Prop :=
  (∀ w', (Builtin.lenOf x).run P w' = .ok m w') ∧ ∀ w' : World, w'.heap = w.heap → (Builtin.firstCells size m x).run P w' = .ok news.toArray w'

theorem src_of_has {w : World} {size m c : Nat} {a : Option Addr} {news : List Value} (h : Has H a news) (hh : ∀ p ∈ H, Holds w p.1 p.2) (hl : news.length = m * size) : SrcOk P w size m (.slice a m c) news := by
  refine ⟨fun w' => rfl, fun w' hw => ?_⟩
  cases a with
  | none =>
    rcases h with rfl | ⟨b, off, o, h, _⟩
    · simp [Builtin.firstCells]
    · cases h
  | some a =>
    refine run_firstCells_some (P := P) w' size m a m c news hl fun j v hv => ?_
    rcases h with rfl | ⟨b, off, o, h1, h2, h3⟩
    · simp at hv
    · simp only [Option.some.injEq] at h1
      subst h1
      rw [add_some]
      have := (hh _ h2).cell (h3 j v hv)
      rw [World.cell?_of_block (w := w) (by rw [hw])]
      exact this

def bytesL (s : ByteArray) : List Value := s.data.toList.map fun b => .int .u8 b.toNat

theorem src_of_string {w : World} {s : ByteArray} : SrcOk P w 1 s.size (.string s) (bytesL s) := by
  refine ⟨fun w' => rfl, fun w' _ => ?_⟩
  simp only [Builtin.firstCells, Sem.run_pure, bytesL]
  congr 1
  apply Array.ext'
  simp only [Array.toList_map]
  congr 2
  have : s.extract 0 s.size = s := by
    apply ByteArray.ext
    simp
  rw [this]

/-! ### Slices that grow -/
def ownV : Option (Nat × Nat) → Nat → Value
  | none, _ => .slice none 0 0
  | some (b, cap), n => .slice (some ⟨b, 0, none⟩) n cap
def ownH (e : TypeId) (size : Nat) : Option (Nat × Nat) → List Value → Hp → Hp
  | none, _, H => H
  | some (b, cap), cs, H => (b, .row e cs (cap * size - cs.length)) :: H
def ownA : Option (Nat × Nat) → Option Addr
  | none => none
  | some (b, _) => some ⟨b, 0, none⟩
def ownC : Option (Nat × Nat) → Nat
  | none => 0
  | some (_, c) => c
/-- Of so many, these cells. -/
def OwnOk (size : Nat) (w : Option (Nat × Nat)) (n : Nat) (cs : List Value) : Prop := cs.length = n * size ∧ (w = none → n = 0) ∧ n ≤ ownC w

theorem ownV_eq {w : Option (Nat × Nat)} {n : Nat} {size : Nat} {cs : List Value} (h : OwnOk size w n cs) : ownV w n = .slice (ownA w) n (ownC w) := by
  cases w with
  | none => rw [h.2.1 rfl]; rfl
  | some p => rfl

theorem Has.own {e : TypeId} {size : Nat} {w : Option (Nat × Nat)} {n : Nat} {cs : List Value} {F : Hp} (h : OwnOk size w n cs) : Has (ownH e size w cs F) (ownA w) cs := by
  cases w with
  | none =>
    have := h.1; rw [h.2.1 rfl, Nat.zero_mul] at this
    rw [List.eq_nil_of_length_eq_zero this]; exact .nil
  | some p => exact .row (List.mem_cons_self ..)
theorem Has.ownF {e : TypeId} {size : Nat} {w : Option (Nat × Nat)} {cs cs' : List Value} {F : Hp} {a : Option Addr} (h : Has F a cs') : Has (ownH e size w cs F) a cs' := by
  cases w with
  | none => exact h
  | some p => exact h.tail

inductive OwnIn (e : TypeId) (size : Nat) : Hp → Option (Nat × Nat) → List Value → Hp → Prop
  | here {w cs F} : OwnIn e size (ownH e size w cs F) w cs F
  | row {b cap cs r F} (h : cap * size = cs.length + r) : OwnIn e size ((b, .row e cs r) :: F) (some (b, cap)) cs F
  | there {p H w cs F} (h : OwnIn e size H w cs F) : OwnIn e size (p :: H) w cs (p :: F)
  | over {w' cs' e' size' H w cs F} (h : OwnIn e size H w cs F) : OwnIn e size (ownH e' size' w' cs' H) w cs (ownH e' size' w' cs' F)

theorem perm_ownH {e : TypeId} {size : Nat} {w : Option (Nat × Nat)} {cs : List Value} {A B : Hp} (h : A.Perm B) : (ownH e size w cs A).Perm (ownH e size w cs B) := by
  cases w with
  | none => exact h
  | some p => exact h.cons _

theorem ownH_swap {e e' : TypeId} {size size' : Nat} {w w' : Option (Nat × Nat)} {cs cs' : List Value} {A : Hp} : (ownH e size w cs (ownH e' size' w' cs' A)).Perm (ownH e' size' w' cs' (ownH e size w cs A)) := by
  cases w with
  | none => exact .refl _
  | some p =>
    cases w' with
    | none => exact .refl _
    | some q => exact .swap _ _ _

theorem OwnIn.perm {e : TypeId} {size : Nat} {H F : Hp} {w : Option (Nat × Nat)} {cs : List Value} (h : OwnIn e size H w cs F) : H.Perm (ownH e size w cs F) := by
  induction h with
  | here => exact .refl _
  | row h => simp only [ownH, h, Nat.add_sub_cancel_left]; exact .refl _
  | there h ih =>
    refine (ih.cons _).trans ?_
    rename_i w _ _
    cases w with
    | none => exact .refl _
    | some p => exact .swap _ _ _
  | over h ih => exact (perm_ownH ih).trans ownH_swap

theorem Holds.wide {w : World} {b : Nat} {e : TypeId} {cs : List Value} {room : Nat} (h : Holds w b (.row e cs room)) : ∃ cs2 : List Value, cs2.length = cs.length + room ∧ cs2.take cs.length = cs ∧ Holds w b (.row e cs2 0) := by
  obtain ⟨c, hc, h1, h2⟩ := h
  refine ⟨c.toList.take (cs.length + room), by simp; omega, by rw [List.take_take, Nat.min_eq_left (by omega)]; exact h1, c, hc, ?_, ?_⟩
  · rw [List.length_take, Nat.min_eq_left (by simpa using h2)]
  · simp; omega

theorem setL_take : ∀ (news cs2 cs : List Value), cs2.take cs.length = cs → cs.length + news.length ≤ cs2.length → (setL cs2 cs.length news).take (cs.length + news.length) = cs ++ news := by
  intro news
  induction news with
  | nil => intro cs2 cs h _; simp [setL, h]
  | cons v news ih =>
    intro cs2 cs h hl
    simp only [List.length_cons] at hl
    have := ih (cs2.set cs.length v) (cs ++ [v]) (by
      rw [List.length_append, List.length_singleton, List.take_add_one, List.take_set_of_le (Nat.le_refl _), h]
      simp only [List.getElem?_set_self (show cs.length < cs2.length by omega)]
      rfl) (by simp; omega)
    simp only [List.length_append, List.length_singleton, List.append_assoc, List.singleton_append] at this
    simp only [setL, List.length_cons]
    rw [← this]; congr 1; omega

set_option maxHeartbeats 1000000 in
/-- What append comes to. -/
theorem run_append_src {w : World} {t u ty e : TypeId} {inf : TypeInfo} {z : Value} (ht : P.underlying t = some (.slice e)) (hu : (∃ q, P.underlying u = some (.slice q)) ∨ P.underlying u = some .string) (hi : P.info? e = some inf) (hz : inf.zero = some z) (hzz : z.cells.size = inf.size)
    {v : Option (Nat × Nat)} {n : Nat} {cs : List Value} (hok : OwnOk inf.size v n cs) {F : Hp} (hh : HSat C (ownH e inf.size v cs F) w) {x : Value} {m : Nat} {news : List Value} (hs : SrcOk P w inf.size m x news)
    (hl : news.length = m * inf.size) (h1 : oneB news = true) (hb : (n + m) * inf.bytes ≤ 140737488355328) (h63 : n + m ≤ 9223372036854775807) :
    ∃ v' w', (Builtin.append_ #[t, u] ty #[ownV v n, x]).run P w = .ok (ownV v' (n + m)) w' ∧ OwnOk inf.size v' (n + m) (cs ++ news) ∧ HSat C (ownH e inf.size v' (cs ++ news) F) w' ∧ (v' = none → v = none) := by
  obtain ⟨hs1, hs2⟩ := hs
  have hlen : (cs ++ news).length = (n + m) * inf.size := by rw [List.length_append, hok.1, hl, Nat.add_mul]
  have hF : HSat C F w := by
    cases v with
    | none => exact hh
    | some p => exact HSat.sub (H' := [(p.1, .row e cs (p.2 * inf.size - cs.length))]) hh
  have hgrow : ∀ (old : Nat), old < n + m → n + m ≤ grownCap w (n + m) old e ∧ HSat C ((w.heap.size, .row e (cs ++ news) (grownCap w (n + m) old e * inf.size - (cs ++ news).length)) :: F)
      (w.drew.alloc (.cells (cs.toArray ++ news.toArray ++ Builtin.zeroCells z.cells (grownCap w (n + m) old e - (n + m))) e)) := by
    intro old ho
    have hge := grownCap_ge w (n + m) old e
    refine ⟨hge, ?_⟩
    have hd : HSat C F w.drew := hF.drawn rfl rfl rfl rfl
    refine hd.alloc _ _ ?_
    refine ⟨cs.toArray ++ news.toArray ++ Builtin.zeroCells z.cells (grownCap w (n + m) old e - (n + m)), (MapKept.heap_alloc _ _).1, ?_, ?_⟩
    · simp only [Array.toList_append, List.append_assoc]
      rw [← List.append_assoc]; exact List.take_left
    · simp only [Array.size_append, List.size_toArray, size_zeroCells, hzz]
      have e1 : (grownCap w (n + m) old e - (n + m)) * inf.size + (n + m) * inf.size = grownCap w (n + m) old e * inf.size := by
        rw [← Nat.add_mul]; congr 1; omega
      rw [List.length_append] at hlen ⊢
      omega
  have h63' : ¬ (9223372036854775807 < ((n : Int) + (m : Int))) := by omega
  cases v with
  | none =>
    have hn := hok.2.1 rfl
    subst hn
    have hcs : cs = [] := List.eq_nil_of_length_eq_zero (by rw [hok.1, Nat.zero_mul])
    subst hcs
    by_cases hm : m = 0
    · subst hm
      have hne : news = [] := List.eq_nil_of_length_eq_zero (by rw [hl, Nat.zero_mul])
      subst hne
      refine ⟨none, w, ?_, ⟨by simp, fun _ => rfl, Nat.zero_le _⟩, hh, fun _ => rfl⟩
      rcases hu with ⟨q, hu⟩ | hu <;> simp [Builtin.append_, run_underlying ht, run_underlying hu, Go.sizeOf, typeInfo, hi, hs1, hs2 w rfl, ownV]
    · obtain ⟨g1, g2⟩ := hgrow 0 (by omega)
      refine ⟨some (w.heap.size, grownCap w (0 + m) 0 e), _, ?_, ⟨hlen, (fun h => by simp at h), g1⟩, g2, fun h => by simp at h⟩
      have h48' : ¬ (281474976710656 < Builtin.nextslicecap m 0 * inf.bytes) := by
        have := growslice_fits (need := m) (old := 0) (bytes := inf.bytes) (by omega) (by simpa using hb); omega
      have h63'' : ¬ (9223372036854775807 < (m : Int)) := by omega
      rcases hu with ⟨q, hu⟩ | hu <;> simp [Builtin.append_, run_underlying ht, run_underlying hu, Go.sizeOf, typeInfo, zeroValue, hi, hz, hs1, hs2 w.drew rfl, ownV, hm, h63'', h48', Question.forced, run_firstCells_none, newRow, grownCap]
  | some p =>
    obtain ⟨b, cap⟩ := p
    have hcap : n ≤ cap := hok.2.2
    by_cases hroom : n + m ≤ cap
    · have hbl := hh.heap _ (List.mem_cons_self ..)
      obtain ⟨cs2, k1, k2, k3⟩ := hbl.wide
      have hcl : cs.length ≤ cap * inf.size := by rw [hok.1]; exact Nat.mul_le_mul_right _ hcap
      have hfit : cs.length + news.length ≤ cap * inf.size := by rw [hok.1, hl, ← Nat.add_mul]; exact Nat.mul_le_mul_right _ hroom
      have hl2 : cs2.length = cap * inf.size := by rw [k1]; omega
      obtain ⟨w', r1, r2, r3⟩ := run_storeCells (P := P) (off := n * inf.size) news 0 k3 (by rw [← hok.1, hl2]; omega) (oneB_spec h1)
      refine ⟨some (b, cap), w', ?_, ⟨hlen, (fun h => by simp at h), hroom⟩, ?_⟩
      · have hadd : (Addr.add ⟨b, 0, none⟩ (n * inf.size)) = ⟨b, n * inf.size, none⟩ := by rw [add_some, Nat.zero_add]
        rcases hu with ⟨q, hu⟩ | hu <;> simp [Builtin.append_, run_underlying ht, run_underlying hu, Go.sizeOf, typeInfo, hi, hs1, hs2 w rfl, ownV, hroom, hadd, r1]
      · have r4 : Holds w' b (.row e (cs ++ news) (cap * inf.size - (cs ++ news).length)) := by
          rw [Nat.add_zero, ← hok.1] at r2
          have := r2.narrow (cs.length + news.length) (cap * inf.size - (cs ++ news).length) (by rw [setL_length, hl2]; exact hfit) (by rw [setL_length, hl2, List.length_append]; omega)
          rw [setL_take news cs2 cs k2 (by rw [hl2]; exact hfit)] at this
          exact this
        exact ⟨hh.wrote rfl r4 r3, fun h => by simp at h⟩
    · obtain ⟨g1, g2⟩ := hgrow cap (by omega)
      refine ⟨some (w.heap.size, grownCap w (n + m) cap e), _, ?_, ⟨hlen, (fun h => by simp at h), g1⟩, g2, fun h => by simp at h⟩
      have h48' : ¬ (281474976710656 < Builtin.nextslicecap (n + m) cap * inf.bytes) := by
        have := growslice_fits (need := n + m) (old := cap) (bytes := inf.bytes) (by omega) hb; omega
      have holds : ∀ j u, cs[j]? = some u → w.drew.cell? ((⟨b, 0, none⟩ : Addr).add j) = some u := by
        intro j u hju
        rw [add_some, Nat.zero_add]
        exact (hh.heap _ (List.mem_cons_self ..)).cell (o := .row e cs _) hju
      have hfo := run_firstCells_some (P := P) w.drew inf.size n ⟨b, 0, none⟩ n cap cs hok.1 holds
      rcases hu with ⟨q, hu⟩ | hu <;> simp [Builtin.append_, run_underlying ht, run_underlying hu, Go.sizeOf, typeInfo, zeroValue, hi, hz, hs1, hs2 w.drew rfl, ownV, hroom, h63', h48', Question.forced, hfo, newRow, grownCap] <;> (congr 2; apply Array.ext'; simp [List.append_assoc])

/-- What append needs to know of a slice's type: its elements' type, their cells and bytes. -/
def appT (P : Program) (t : TypeId) : Option (TypeId × Nat × Nat) :=
  match P.underlying t with
  | some (.slice e) => match P.info? e with
    | some inf => match inf.zero with
      | some z => if (cellsL z).length = inf.size then some (e, inf.size, inf.bytes) else none
      | none => none
    | none => none
  | _ => none

def notNum (P : Program) (u : TypeId) : Bool := match P.underlying u with
  | some (.slice _) => true
  | some .string => true
  | _ => false

theorem notNum_spec {u : TypeId} (h : notNum P u = true) : (∃ q, P.underlying u = some (.slice q)) ∨ P.underlying u = some .string := by
  unfold notNum at h
  split at h
  · exact .inl ⟨_, ‹_›⟩
  · exact .inr ‹_›
  · cases h

theorem G.append {s x : Operand} {t1 t2 e : TypeId} {size bytes n m : Nat} {v : Option (Nat × Nat)} {F : Hp} {cs news : List Value} {xv : Value} (hw : wantT ops T ⟨some t, .call ⟨.builtin .append, #[s, x], #[t1, t2]⟩, ty, ps, af, gd⟩ = some true)
    (hx : ev T s = some (ownV v n)) (hy : ev T x = some xv) (ht : appT P t1 = some (e, size, bytes)) (hu : notNum P t2 = true) (hown : OwnIn e size H v cs F) (hok : OwnOk size v n cs)
    (hsrc : ∀ w, HSat C H w → SrcOk P w size m xv news) (hl : news.length = m * size) (h1 : oneB news = true) (hb : (n + m) * bytes ≤ 140737488355328) (h63 : n + m ≤ 9223372036854775807)
    (hst : StOk ops (i :: is) F log)
    (next : ∀ v', OwnOk size v' (n + m) (cs ++ news) → (v' = none → v = none) → RG dr P C ops K is (upd T t (ownV v' (n + m))) (ownH e size v' (cs ++ news) F) log) :
    RGo ⟨some t, .call ⟨.builtin .append, #[s, x], #[t1, t2]⟩, ty, ps, af, gd⟩ dr P C ops K i is T H log := by
  intro ho
  refine RG.spine _ (fun u H' => ∃ v', u = ownV v' (n + m) ∧ OwnOk size v' (n + m) (cs ++ news) ∧ (v' = none → v = none) ∧ H' = ownH e size v' (cs ++ news) F) ho hw rfl rfl (fun ρ w hρ hh => ?_) ?_ ?_
  · have e1 := hρ s (by simp [Op.operands, Call.operands]) _ hx
    have e2 := hρ x (by simp [Op.operands, Call.operands]) _ hy
    unfold appT at ht
    cases hq : P.underlying t1 with
    | none => rw [hq] at ht; cases ht
    | some d =>
      rw [hq] at ht
      cases d <;> simp only [reduceCtorEq] at ht
      rename_i e'
      cases hi : P.info? e' with
      | none => rw [hi] at ht; cases ht
      | some inf =>
        rw [hi] at ht
        simp only at ht
        cases hz : inf.zero with
        | none => rw [hz] at ht; cases ht
        | some z =>
          rw [hz] at ht
          simp only at ht
          split at ht
          · rename_i hzz
            simp only [Option.some.injEq, Prod.mk.injEq] at ht
            obtain ⟨rfl, rfl, rfl⟩ := ht
            obtain ⟨v', w', r1, r2, r3, r4⟩ := run_append_src (ty := ty) hq (notNum_spec hu) hi hz (by rw [← hzz, ← cellsL_eq]; simp) hok (hh.perm hown.perm) (hsrc w hh) hl h1 hb h63
            simp only [execOp, resolve, Sem.run_bind, Sem.run_pure, Result.andThen_ok, invoke, builtin, List.map_toArray, List.map_cons, List.map_nil, e1, e2, r1, Came]
            exact ⟨_, ⟨v', rfl, r2, r4, rfl⟩, r3⟩
          · cases ht
  · rintro u H1 ⟨v', _, _, _, rfl⟩ e' he _
    refine (hst.spec e' he).imp (fun h => ?_) id
    cases v' with
    | none => exact h
    | some p => exact List.mem_cons_of_mem _ h
  · rintro u H1 ⟨v', rfl, h2, h3, rfl⟩; exact next v' h2 h3
theorem G.appendB {s x : Operand} {t1 t2 e : TypeId} {size bytes n m b cap c' r : Nat} {a : Option Addr} {F : Hp} {cs news cs' : List Value} (hw : wantT ops T ⟨some t, .call ⟨.builtin .append, #[s, x], #[t1, t2]⟩, ty, ps, af, gd⟩ = some true)
    (hx : ev T s = some (.slice (some ⟨b, 0, none⟩) n cap)) (hy : ev T x = some (.slice a m c')) (ht : appT P t1 = some (e, size, bytes)) (hu : notNum P t2 = true) (hrem : Rem H (b, .row e cs r) F) (hcs : cs.length = n * size) (hr : cap * size = cs.length + r) (hcap : n ≤ cap)
    (hsrc : Has H a news) (hl : news.length = m * size) (h1 : oneB news = true) (n' : Nat) (hn : n + m = n') (hc' : cs ++ news = cs') (hb : n' * bytes ≤ 140737488355328) (h63 : n' ≤ 9223372036854775807)
    (hst : StOk ops (i :: is) F log)
    (next : ∀ b' cap' r', n' ≤ cap' → cap' * size = cs'.length + r' → RG dr P C ops K is (upd T t (.slice (some ⟨b', 0, none⟩) n' cap')) ((b', .row e cs' r') :: F) log) :
    RGo ⟨some t, .call ⟨.builtin .append, #[s, x], #[t1, t2]⟩, ty, ps, af, gd⟩ dr P C ops K i is T H log := by
  subst hn; subst hc'
  have hin : ∀ {p : Nat × AObj} {H F : Hp}, Rem H p F → ∀ {b cap cs r}, p = (b, AObj.row e cs r) → cap * size = cs.length + r → OwnIn e size H (some (b, cap)) cs F := by
    intro p H F h
    induction h with
    | here => intro b cap cs r hp h; subst hp; exact .row h
    | there _ ih => intro b cap cs r hp h; exact .there (ih hp h)
  refine G.append (v := some (b, cap)) hw hx hy ht hu (hin hrem rfl hr) ⟨hcs, fun h => by simp at h, hcap⟩ (fun w hh => src_of_has hsrc hh.heap hl) hl h1 hb h63 hst fun v' hv' hvn => ?_
  cases v' with
  | none => exact absurd (hvn rfl) (by simp)
  | some p =>
    obtain ⟨b', cap'⟩ := p
    refine next b' cap' (cap' * size - (cs ++ news).length) hv'.2.2 ?_
    have h3 : (cs ++ news).length ≤ cap' * size := by rw [hv'.1]; exact Nat.mul_le_mul_right _ hv'.2.2
    omega

/-- A nil slice grows. -/
theorem G.appendN {s x : Operand} {t1 t2 e : TypeId} {size bytes m c' : Nat} {a : Option Addr} {news : List Value} (hw : wantT ops T ⟨some t, .call ⟨.builtin .append, #[s, x], #[t1, t2]⟩, ty, ps, af, gd⟩ = some true)
    (hx : ev T s = some (.slice none 0 0)) (hy : ev T x = some (.slice a m c')) (ht : appT P t1 = some (e, size, bytes)) (hu : notNum P t2 = true)
    (hsrc : Has H a news) (hl : news.length = m * size) (h1 : oneB news = true) (hpos : 0 < m) (hb : m * bytes ≤ 140737488355328) (h63 : m ≤ 9223372036854775807)
    (hst : StOk ops (i :: is) H log)
    (next : ∀ b' cap' r', m ≤ cap' → cap' * size = news.length + r' → RG dr P C ops K is (upd T t (.slice (some ⟨b', 0, none⟩) m cap')) ((b', .row e news r') :: H) log) :
    RGo ⟨some t, .call ⟨.builtin .append, #[s, x], #[t1, t2]⟩, ty, ps, af, gd⟩ dr P C ops K i is T H log := by
  refine G.append (v := none) (n := 0) (cs := []) hw hx hy ht hu (.here (w := none)) ⟨by simp, fun _ => rfl, Nat.le_refl _⟩ (fun w hh => src_of_has hsrc hh.heap hl) hl h1 (by simpa using hb) (by simpa using h63) hst fun v' hv' _ => ?_
  cases v' with
  | none =>
    have h0 := hv'.2.2
    simp only [ownC] at h0
    omega
  | some p =>
    obtain ⟨b', cap'⟩ := p
    have h2 := hv'.2.2
    have h4 := hv'.1
    simp only [Nat.zero_add, List.nil_append, ownC] at h2 h4 ⊢
    refine next b' cap' (cap' * size - news.length) h2 ?_
    have h3 : news.length ≤ cap' * size := by rw [h4]; exact Nat.mul_le_mul_right _ h2
    omega

theorem G.bslice {st : TypeId} {n : Nat} {parts : Array (Nat × Operand)} {f : Nat → Value} {x : AObj} (hw : wantT ops T ⟨some t, .buildSlice st n parts, ty, ps, af, gd⟩ = some true) (hn : newA P T (.buildSlice st n parts) = some (f, x))
    (next : ∀ b, RG dr P C ops K is (upd T t (f b)) ((b, x) :: H) log) : RGo ⟨some t, .buildSlice st n parts, ty, ps, af, gd⟩ dr P C ops K i is T H log := G.new hw hn next

/-! make -/
def mkT (P : Program) (t : TypeId) : Option (TypeId × List Value × Nat × Nat) :=
  match P.underlying t with
  | some (.slice e) => match P.info? e with
    | some inf => match zeroOf P e with
      | some z => if inf.size = z.length then some (e, z, inf.size, inf.bytes) else none
      | none => none
    | none => none
  | _ => none

theorem G.make {st e : TypeId} {x y : Operand} {k1 k2 : IntKind} {l c : Int} {z cs' : List Value} {size bytes : Nat} (hw : wantT ops T ⟨some t, .makeSlice st x y, ty, ps, af, gd⟩ = some true) (hx : ev T x = some (.int k1 l)) (hy : ev T y = some (.int k2 c)) (ht : mkT P st = some (e, z, size, bytes))
    (n m : Nat) (hl : l = n) (hc : c = m) (h1 : n ≤ m) (h2 : bytes * m ≤ 281474976710656) (h3 : m < 9223372036854775808) (hcs : (List.replicate n z).flatten = cs')
    (next : ∀ b, RG dr P C ops K is (upd T t (.slice (some ⟨b, 0, none⟩) n m)) ((b, .row e cs' ((m - n) * size)) :: H) log) : RGo ⟨some t, .makeSlice st x y, ty, ps, af, gd⟩ dr P C ops K i is T H log := by
  subst hl; subst hc; subst hcs
  refine G.new (f := sliceTo n m) (x := .row e (List.replicate n z).flatten ((m - n) * size)) hw ?_ next
  unfold mkT at ht
  split at ht
  · rename_i e' hu
    cases hi : P.info? e' with
    | none => rw [hi] at ht; cases ht
    | some inf =>
      rw [hi] at ht
      simp only at ht
      cases hz : zeroOf P e' with
      | none => rw [hz] at ht; cases ht
      | some z' =>
        rw [hz] at ht
        simp only at ht
        split at ht
        · rename_i hs
          simp only [Option.some.injEq, Prod.mk.injEq] at ht
          obtain ⟨rfl, rfl, rfl, rfl⟩ := ht
          have hcond : inf.size = z'.length ∧ (0 : Int) ≤ (n : Int) ∧ (n : Int) ≤ (m : Int) ∧ (m : Int) < 9223372036854775808 ∧ (inf.bytes : Int) * (m : Int) ≤ 2 ^ 48 := ⟨hs, by omega, by omega, by omega, by
            have h4 := Int.ofNat_le.2 h2; rw [Int.natCast_mul] at h4; exact h4⟩
          simp only [newA, hu, hi, hz, hx, hy]
          rw [if_pos hcond]
          simp only [Int.toNat_natCast, hs]
        · cases ht
  · cases ht

end Bw
