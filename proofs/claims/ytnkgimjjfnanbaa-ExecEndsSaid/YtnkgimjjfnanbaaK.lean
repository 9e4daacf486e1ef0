/- Contracts of Check and its reference. -/
import Derived.Test.YtnkgimjjfnanbaaRows
import Derived.Test.YtnkgimjjfnanbaaSI
namespace Go.Proofs.Ytnkgimjjfnanbaa
open Go Go.RowKit Bw
set_option linter.unusedSimpArgs false
set_option linter.unusedVariables false
attribute [local irreducible] OC RC DC XC


abbrev IV := Int × Int
def insC (x : IV) : List Value := [.int .i64 x.1, .int .i64 x.2]
def cellsI (l : List IV) : List Value := l.flatMap insC
theorem insC_len (x : IV) : (insC x).length = 2 := rfl
theorem cellsI_ne {l : List IV} {j : Nat} {x : IV} (h : l[j]? = some x) : cellsI l ≠ [] := flat_ne h (by simp [insC])
theorem cellsI_ins {l : List IV} {j : Nat} {x : IV} (h : l[j]? = some x) : loadL Try.prog 35 (cellsI l) (j * 2) = some (.agg #[.int .i64 x.1, .int .i64 x.2]) := loadL_agg (by kernel_rfl) insC_len h
theorem cellsI_op {l : List IV} {j : Nat} {x : IV} (h : l[j]? = some x) : loadL Try.prog 33 (cellsI l) (j * 2 + 0) = some (.int .i64 x.1) := loadL_fld (m := 1) (by kernel_rfl) insC_len h (by decide) rfl
theorem cellsI_3 {l : List IV} {j : Nat} {x : IV} (h : l[j]? = some x) : loadL Try.prog 3 (cellsI l) (j * 2 + 1) = some (.int .i64 x.2) := loadL_fld (m := 1) (by kernel_rfl) insC_len h (by decide) rfl
def I64 (n : Int) : Prop := -9223372036854775808 ≤ n ∧ n < 9223372036854775808
def okL (l : List IV) : Prop := ∀ x ∈ l, I64 x.1 ∧ I64 x.2

@[irreducible] def rightB (x : IV) (n : Int) : Bool :=
  if x.1 = 1 ∨ x.1 = 5 then decide (1 ≤ x.2) && decide (x.2 ≤ 65536)
  else if x.1 = 2 ∨ x.1 = 3 then decide (0 ≤ x.2) && decide (x.2 < 32)
  else if x.1 = 4 then decide (0 ≤ x.2) && decide (x.2 < 16)
  else if x.1 = 7 then decide (0 ≤ x.2) && decide (x.2 < 256)
  else if x.1 = 8 then decide (0 ≤ x.2) && decide (x.2 < n)
  else if x.1 = 6 ∨ x.1 = 9 then decide (x.2 = 0)
  else false
/-- From where to where an Arg may be, and whether there is such an Op. -/
@[irreducible] def spanOf (n op : Int) : Int × Int × Bool :=
  if op = 1 ∨ op = 5 then (1, 65536, true)
  else if op = 2 ∨ op = 3 then (0, 31, true)
  else if op = 4 then (0, 15, true)
  else if op = 7 then (0, 255, true)
  else if op = 8 then (0, n - 1, true)
  else if op = 6 ∨ op = 9 then (0, 0, true)
  else (0, 0, false)
def spV (a b : Int) : Value := .agg #[.int .i64 a, .int .i64 b]
def spansE (n : Int) : List MapEntry := [⟨.int .i64 1, .agg #[.int .i64 1, .int .i64 65536], 0⟩, ⟨.int .i64 5, .agg #[.int .i64 1, .int .i64 65536], 1⟩, ⟨.int .i64 2, .agg #[.int .i64 0, .int .i64 31], 2⟩, ⟨.int .i64 3, .agg #[.int .i64 0, .int .i64 31], 3⟩,
  ⟨.int .i64 4, .agg #[.int .i64 0, .int .i64 15], 4⟩, ⟨.int .i64 7, .agg #[.int .i64 0, .int .i64 255], 5⟩, ⟨.int .i64 8, .agg #[.int .i64 0, .int .i64 (n - 1)], 6⟩, ⟨.int .i64 6, .agg #[.int .i64 0, .int .i64 0], 7⟩, ⟨.int .i64 9, .agg #[.int .i64 0, .int .i64 0], 8⟩]
theorem zeroSp : (Try.prog.info? 50).bind (·.zero) = some (.agg #[.int .i64 0, .int .i64 0]) := by kernel_rfl
theorem look_spans (n op : Int) : lookL Try.prog (.int .i64) 50 (.int .i64 op) (spansE n) = some (.agg #[.int .i64 (spanOf n op).1, .int .i64 (spanOf n op).2.1], (spanOf n op).2.2) := by
  obtain ⟨inf, h1, h2⟩ := Option.bind_eq_some_iff.1 zeroSp
  by_cases e1 : op = 1
  · subst e1; simp [lookL, spansE, Instr.findNow, Instr.sameNow, spanOf]
  by_cases e5 : op = 5
  · subst e5; simp [lookL, spansE, Instr.findNow, Instr.sameNow, spanOf]
  by_cases e2 : op = 2
  · subst e2; simp [lookL, spansE, Instr.findNow, Instr.sameNow, spanOf]
  by_cases e3 : op = 3
  · subst e3; simp [lookL, spansE, Instr.findNow, Instr.sameNow, spanOf]
  by_cases e4 : op = 4
  · subst e4; simp [lookL, spansE, Instr.findNow, Instr.sameNow, spanOf]
  by_cases e7 : op = 7
  · subst e7; simp [lookL, spansE, Instr.findNow, Instr.sameNow, spanOf]
  by_cases e8 : op = 8
  · subst e8; simp [lookL, spansE, Instr.findNow, Instr.sameNow, spanOf]
  by_cases e6 : op = 6
  · subst e6; simp [lookL, spansE, Instr.findNow, Instr.sameNow, spanOf]
  by_cases e9 : op = 9
  · subst e9; simp [lookL, spansE, Instr.findNow, Instr.sameNow, spanOf]
  have b1 : (op == (1 : Int)) = false := by simpa using e1
  have b2 : (op == (2 : Int)) = false := by simpa using e2
  have b3 : (op == (3 : Int)) = false := by simpa using e3
  have b4 : (op == (4 : Int)) = false := by simpa using e4
  have b5 : (op == (5 : Int)) = false := by simpa using e5
  have b6 : (op == (6 : Int)) = false := by simpa using e6
  have b7 : (op == (7 : Int)) = false := by simpa using e7
  have b8 : (op == (8 : Int)) = false := by simpa using e8
  have b9 : (op == (9 : Int)) = false := by simpa using e9
  simp [lookL, spansE, Instr.findNow, Instr.sameNow, spanOf, h1, h2, b1, b2, b3, b4, b5, b6, b7, b8, b9, e1, e2, e3, e4, e5, e6, e7, e8, e9]

theorem spanOf_right (x : IV) (n : Int) : ((!(spanOf n x.1).2.2) || decide (x.2 < (spanOf n x.1).1) || decide ((spanOf n x.1).2.1 < x.2)) = !rightB x n := by
  unfold spanOf rightB
  repeat' split
  all_goals (rw [Bool.eq_iff_iff]; simp; try omega)

def bad (l : List IV) : Option Nat := l.findIdx? fun x => !rightB x l.length
@[irreducible] def chk (l : List IV) : Int × Int :=
  if l.length = 0 ∨ 64 < l.length then (3, 0) else match bad l with
  | some i => (3, i)
  | none => match l[l.length - 1]? with
    | some x => if x.1 ≠ 8 ∧ x.1 ≠ 9 then (3, (l.length : Int) - 1) else (0, 0)
    | none => (3, 0)
theorem chk_size {l : List IV} (h : l.length = 0 ∨ 64 < l.length) : chk l = (3, 0) := by unfold chk; rw [if_pos h]
theorem chk_bad {l : List IV} {j : Nat} {x : IV} (h0 : 0 < l.length) (h1 : l.length ≤ 64) (hj : l[j]? = some x) (hx : rightB x l.length = false) (hb : ∀ i y, i < j → l[i]? = some y → rightB y l.length = true) : chk l = (3, (j : Int)) := by
  have hlt : j < l.length := (List.getElem?_eq_some_iff.1 hj).1
  have : bad l = some j := by
    unfold bad
    rw [List.findIdx?_eq_some_iff_getElem]
    refine ⟨hlt, ?_, fun i hi => ?_⟩
    · have := (List.getElem?_eq_some_iff.1 hj).2; rw [this, hx]; rfl
    · rw [hb i _ hi (List.getElem?_eq_getElem (by omega))]; simp
  unfold chk
  rw [if_neg (by omega), this]
theorem bad_none {l : List IV} (hb : ∀ i y, i < l.length → l[i]? = some y → rightB y l.length = true) : bad l = none := by
  unfold bad
  rw [List.findIdx?_eq_none_iff]
  intro x hx
  obtain ⟨i, hi, rfl⟩ := List.getElem_of_mem hx
  rw [hb i _ hi (List.getElem?_eq_getElem hi)]; rfl
theorem chk_end {l : List IV} {x : IV} (h0 : 0 < l.length) (h1 : l.length ≤ 64) (hj : l[l.length - 1]? = some x) (hb : ∀ i y, i < l.length → l[i]? = some y → rightB y l.length = true) : chk l = if x.1 ≠ 8 ∧ x.1 ≠ 9 then (3, (l.length : Int) - 1) else (0, 0) := by
  unfold chk
  rw [if_neg (by omega), bad_none hb]
  simp only [hj]

set_option maxHeartbeats 4000000 in
set_option maxRecDepth 4000 in
theorem few_dc (a : Option Addr) (n c : Nat) (hn : n ≤ c) : DC Try.prog 9 #[.slice a n c] (.slice a (min n 100) c) := by
  all_goals (try unfold RC)
  all_goals (try unfold DC)
  all_goals refine OC.of_sw Try.func9 rfl Try.ntmps9 (Nat.le_of_ble_eq_true rfl) fun C => ?_
  repeat' (first
    | ((with_reducible apply G.at); rfl; first
       | ((with_reducible apply G.move); rfl; rfl) | ((with_reducible apply G.assign); rfl; rfl)
       | ((with_reducible apply G.load0); rfl; rfl; (focus (repeat (first | exact List.Mem.head _ | assumption | apply List.Mem.tail | apply mem_oH))); rfl) | ((with_reducible apply G.load1); rfl; rfl; (focus (repeat (first | exact List.Mem.head _ | assumption | apply List.Mem.tail | apply mem_oH))); rfl)
       | ((with_reducible apply G.faddrh (k := 0)); rfl; rfl; rfl) | ((with_reducible apply G.faddrh (k := 1)); rfl; rfl; rfl) | ((with_reducible apply G.faddrh (k := 2)); rfl; rfl; rfl) | ((with_reducible apply G.faddrh (k := 3)); rfl; rfl; rfl) | ((with_reducible apply G.faddrh (k := 4)); rfl; rfl; rfl) | ((with_reducible apply G.faddrh (k := 5)); rfl; rfl; rfl) | ((with_reducible apply G.faddrh (k := 6)); rfl; rfl; rfl) | ((with_reducible apply G.faddrh (k := 7)); rfl; rfl; rfl)
       | ((with_reducible apply G.slice_h (h := 100)); rfl; rfl; rfl; rfl; (first | rfl | omega); (first | assumption | omega))
       | ((with_reducible apply G.nilck); rfl; rfl) | ((with_reducible apply G.extract); rfl; rfl; rfl) | ((with_reducible apply G.len); rfl; rfl; rfl) | ((with_reducible apply G.pick1); rfl; rfl; rfl) | ((with_reducible apply G.pick0); rfl; rfl; rfl) | ((with_reducible apply G.unw); rfl) | ((with_reducible apply G.unw0); rfl)
       | ((with_reducible apply G.boxa); rfl; rfl; intro b) | ((with_reducible apply G.box); rfl; rfl; intro b) | ((with_reducible apply G.alloc); rfl; rfl; rfl; intro b)
       | ((with_reducible apply G.store); rfl; rfl; rfl; rfl; rfl; rfl; (focus (repeat (first | assumption | exact Rem.here | apply Rem.there | apply Rem.oH))); (exact Nat.le_of_ble_eq_true rfl); (focus (repeat (first | exact StOk.nil | (refine StOk.keep ?_ ?_; (focus ((repeat (first | exact List.Mem.head _ | assumption | apply List.Mem.tail | apply mem_oH)); done))) | refine StOk.gone (by kernel_rfl) ?_))); rfl)
       | ((with_reducible apply G.build); rfl; rfl; rfl) | ((with_reducible apply G.eqs); rfl; rfl; rfl; rfl; (kernel_rfl); (kernel_rfl)) | ((with_reducible apply G.nes); rfl; rfl; rfl; rfl; (kernel_rfl); (kernel_rfl))
       | ((with_reducible apply G.num); rfl; rfl; rfl; rfl; rfl; (first | ((with_reducible apply shl8); omega; omega) | ((with_reducible apply shl16); omega; omega) | ((with_reducible apply or8); omega; omega; omega; omega) | ((with_reducible apply or16); omega; omega; omega; omega) | ((with_reducible apply or24); omega; omega; omega; omega; omega; omega) | ((with_reducible apply i64_in); omega; omega) | ((with_reducible apply wrap8_in); omega; omega) | ((with_reducible apply u64_in); omega; omega) | with_reducible exact shr16 _ | with_reducible exact shr8 _ | with_reducible exact wrap8_mod _ | with_reducible exact shr32u _ | ((with_reducible apply and32u); omega; omega) | with_reducible exact wrap64_mod _))
       | ((with_reducible apply G.min2); rfl; rfl; rfl; (first | (apply if_pos; omega) | (apply if_neg; omega) | rfl)) | ((with_reducible apply G.max2); rfl; rfl; rfl; (first | (apply if_pos; omega) | (apply if_neg; omega) | rfl))
       | ((with_reducible apply G.pure); rfl; rfl; rfl; rfl; rfl)
       | ((with_reducible apply G.known true); rfl; rfl; rfl; (focus (first | with_reducible rfl | ((with_reducible apply decide_eq_true); omega) | ((with_reducible apply decide_eq_false); omega) | ((with_reducible apply beq_iff_eq.2); omega) | ((with_reducible apply beq_eq_false_iff_ne.2); omega) | ((with_reducible apply bne_iff_ne.2); omega) | ((with_reducible apply bne_eq_false_iff_eq.2); omega) | (simp; done)))) | ((with_reducible apply G.known false); rfl; rfl; rfl; (focus (first | with_reducible rfl | ((with_reducible apply decide_eq_true); omega) | ((with_reducible apply decide_eq_false); omega) | ((with_reducible apply beq_iff_eq.2); omega) | ((with_reducible apply beq_eq_false_iff_ne.2); omega) | ((with_reducible apply bne_iff_ne.2); omega) | ((with_reducible apply bne_eq_false_iff_eq.2); omega) | (simp; done))))
       | ((with_reducible apply G.split); rfl; rfl; rfl; all_goals (intro h; first | replace h := beq_t h | replace h := beq_f h | replace h := bne_t h | replace h := bne_f h | replace h := of_decide_eq_true h | replace h := of_decide_eq_false h | skip)))
    | with_reducible apply RG.done | with_reducible apply Q.tn | with_reducible apply Q.tr | with_reducible apply Q.te | with_reducible apply Q.bn | with_reducible apply Q.br | with_reducible apply Q.be | ((with_reducible apply Q.bx); decide) | with_reducible apply Q.tp | with_reducible apply Q.bp
    | with_reducible apply SW.seq | with_reducible apply SW.block | with_reducible apply SW.ret | with_reducible apply SW.skip | with_reducible apply SW.exit
    | ((with_reducible apply SW.cond1); rfl; (focus (first | with_reducible rfl | ((with_reducible apply decide_eq_true); omega) | ((with_reducible apply decide_eq_false); omega) | ((with_reducible apply beq_iff_eq.2); omega) | ((with_reducible apply beq_eq_false_iff_ne.2); omega) | ((with_reducible apply bne_iff_ne.2); omega) | ((with_reducible apply bne_eq_false_iff_eq.2); omega) | (simp; done)))) | ((with_reducible apply SW.cond0); rfl; (focus (first | with_reducible rfl | ((with_reducible apply decide_eq_true); omega) | ((with_reducible apply decide_eq_false); omega) | ((with_reducible apply beq_iff_eq.2); omega) | ((with_reducible apply beq_eq_false_iff_ne.2); omega) | ((with_reducible apply bne_iff_ne.2); omega) | ((with_reducible apply bne_eq_false_iff_eq.2); omega) | (simp; done))))
    | ((with_reducible apply SW.cond); rfl; all_goals (intro h; first | replace h := beq_t h | replace h := beq_f h | replace h := bne_t h | replace h := bne_f h | replace h := of_decide_eq_true h | replace h := of_decide_eq_false h | skip))
    | ((with_reducible apply SW.region0); kernel_rfl; rfl))
  all_goals ((first | refine Q.dret (.cons (.tmp rfl) .nil) ?_ | refine Q.dret (.cons (.cell rfl (by repeat (first | exact List.Mem.head _ | apply List.Mem.tail)) rfl) .nil) ?_ | refine Q.dret (.cons (.tmp rfl) (.cons (.tmp rfl) .nil)) ?_); simp only [tupV]; congr 1; omega)

set_option maxHeartbeats 4000000 in
set_option maxRecDepth 4000 in
theorem spans_oc (H : Hp) (n : Int) (h0 : 0 ≤ n) (h1 : n < 1000) : OC Try.prog 20 #[.int .i64 n] H (fun u H' => ∃ b, u = .map (some b) ∧ H' = (b, .map (spansE n).toArray 9) :: H) := by
  all_goals (try unfold RC)
  all_goals (try unfold DC)
  all_goals refine OC.of_sw Try.func20 rfl Try.ntmps20 (Nat.le_of_ble_eq_true rfl) fun C => ?_
  repeat' (first
    | ((with_reducible apply G.at); rfl; first
       | ((with_reducible apply G.move); rfl; rfl) | ((with_reducible apply G.assign); rfl; rfl)
       | ((with_reducible apply G.load0); rfl; rfl; (focus (repeat (first | exact List.Mem.head _ | assumption | apply List.Mem.tail | apply mem_oH))); rfl) | ((with_reducible apply G.load1); rfl; rfl; (focus (repeat (first | exact List.Mem.head _ | assumption | apply List.Mem.tail | apply mem_oH))); rfl)
       | ((with_reducible apply G.faddrh (k := 0)); rfl; rfl; rfl) | ((with_reducible apply G.faddrh (k := 1)); rfl; rfl; rfl) | ((with_reducible apply G.faddrh (k := 2)); rfl; rfl; rfl) | ((with_reducible apply G.faddrh (k := 3)); rfl; rfl; rfl) | ((with_reducible apply G.faddrh (k := 4)); rfl; rfl; rfl) | ((with_reducible apply G.faddrh (k := 5)); rfl; rfl; rfl) | ((with_reducible apply G.faddrh (k := 6)); rfl; rfl; rfl) | ((with_reducible apply G.faddrh (k := 7)); rfl; rfl; rfl)
       | ((with_reducible apply G.makeMap); rfl; (exact StOk.nil); intro b)
       | ((with_reducible apply G.insert); (exact .inl rfl); rfl; rfl; rfl; rfl; rfl; rfl; (focus (repeat (first | assumption | exact Rem.here | apply Rem.there | apply Rem.oH))); rfl; rfl; (exact StOk.nil))
       | ((with_reducible apply G.nilck); rfl; rfl) | ((with_reducible apply G.extract); rfl; rfl; rfl) | ((with_reducible apply G.len); rfl; rfl; rfl) | ((with_reducible apply G.pick1); rfl; rfl; rfl) | ((with_reducible apply G.pick0); rfl; rfl; rfl) | ((with_reducible apply G.unw); rfl) | ((with_reducible apply G.unw0); rfl)
       | ((with_reducible apply G.boxa); rfl; rfl; intro b) | ((with_reducible apply G.box); rfl; rfl; intro b) | ((with_reducible apply G.alloc); rfl; rfl; rfl; intro b)
       | ((with_reducible apply G.store); rfl; rfl; rfl; rfl; rfl; rfl; (focus (repeat (first | assumption | exact Rem.here | apply Rem.there | apply Rem.oH))); (exact Nat.le_of_ble_eq_true rfl); (focus (repeat (first | exact StOk.nil | (refine StOk.keep ?_ ?_; (focus ((repeat (first | exact List.Mem.head _ | assumption | apply List.Mem.tail | apply mem_oH)); done))) | refine StOk.gone (by kernel_rfl) ?_))); rfl)
       | ((with_reducible apply G.build); rfl; rfl; rfl) | ((with_reducible apply G.eqs); rfl; rfl; rfl; rfl; (kernel_rfl); (kernel_rfl)) | ((with_reducible apply G.nes); rfl; rfl; rfl; rfl; (kernel_rfl); (kernel_rfl))
       | ((with_reducible apply G.num); rfl; rfl; rfl; rfl; rfl; (first | ((with_reducible apply shl8); omega; omega) | ((with_reducible apply shl16); omega; omega) | ((with_reducible apply or8); omega; omega; omega; omega) | ((with_reducible apply or16); omega; omega; omega; omega) | ((with_reducible apply or24); omega; omega; omega; omega; omega; omega) | ((with_reducible apply i64_in); omega; omega) | ((with_reducible apply wrap8_in); omega; omega) | ((with_reducible apply u64_in); omega; omega) | with_reducible exact shr16 _ | with_reducible exact shr8 _ | with_reducible exact wrap8_mod _ | with_reducible exact shr32u _ | ((with_reducible apply and32u); omega; omega) | with_reducible exact wrap64_mod _))
       | ((with_reducible apply G.min2); rfl; rfl; rfl; (first | (apply if_pos; omega) | (apply if_neg; omega) | rfl)) | ((with_reducible apply G.max2); rfl; rfl; rfl; (first | (apply if_pos; omega) | (apply if_neg; omega) | rfl))
       | ((with_reducible apply G.pure); rfl; rfl; rfl; rfl; rfl)
       | ((with_reducible apply G.known true); rfl; rfl; rfl; (focus (first | with_reducible rfl | ((with_reducible apply decide_eq_true); omega) | ((with_reducible apply decide_eq_false); omega) | ((with_reducible apply beq_iff_eq.2); omega) | ((with_reducible apply beq_eq_false_iff_ne.2); omega) | ((with_reducible apply bne_iff_ne.2); omega) | ((with_reducible apply bne_eq_false_iff_eq.2); omega) | (simp; done)))) | ((with_reducible apply G.known false); rfl; rfl; rfl; (focus (first | with_reducible rfl | ((with_reducible apply decide_eq_true); omega) | ((with_reducible apply decide_eq_false); omega) | ((with_reducible apply beq_iff_eq.2); omega) | ((with_reducible apply beq_eq_false_iff_ne.2); omega) | ((with_reducible apply bne_iff_ne.2); omega) | ((with_reducible apply bne_eq_false_iff_eq.2); omega) | (simp; done))))
       | ((with_reducible apply G.split); rfl; rfl; rfl; all_goals (intro h; first | replace h := beq_t h | replace h := beq_f h | replace h := bne_t h | replace h := bne_f h | replace h := of_decide_eq_true h | replace h := of_decide_eq_false h | skip)))
    | with_reducible apply RG.done | with_reducible apply Q.tn | with_reducible apply Q.tr | with_reducible apply Q.te | with_reducible apply Q.bn | with_reducible apply Q.br | with_reducible apply Q.be | ((with_reducible apply Q.bx); decide) | with_reducible apply Q.tp | with_reducible apply Q.bp
    | with_reducible apply SW.seq | with_reducible apply SW.block | with_reducible apply SW.ret | with_reducible apply SW.skip | with_reducible apply SW.exit
    | ((with_reducible apply SW.cond1); rfl; (focus (first | with_reducible rfl | ((with_reducible apply decide_eq_true); omega) | ((with_reducible apply decide_eq_false); omega) | ((with_reducible apply beq_iff_eq.2); omega) | ((with_reducible apply beq_eq_false_iff_ne.2); omega) | ((with_reducible apply bne_iff_ne.2); omega) | ((with_reducible apply bne_eq_false_iff_eq.2); omega) | (simp; done)))) | ((with_reducible apply SW.cond0); rfl; (focus (first | with_reducible rfl | ((with_reducible apply decide_eq_true); omega) | ((with_reducible apply decide_eq_false); omega) | ((with_reducible apply beq_iff_eq.2); omega) | ((with_reducible apply beq_eq_false_iff_ne.2); omega) | ((with_reducible apply bne_iff_ne.2); omega) | ((with_reducible apply bne_eq_false_iff_eq.2); omega) | (simp; done))))
    | ((with_reducible apply SW.cond); rfl; all_goals (intro h; first | replace h := beq_t h | replace h := beq_f h | replace h := bne_t h | replace h := bne_f h | replace h := of_decide_eq_true h | replace h := of_decide_eq_false h | skip))
    | ((with_reducible apply SW.region0); kernel_rfl; rfl))
  all_goals ((apply Q.ret (.cons (by first | exact .tmp rfl | exact .cell rfl (by repeat (first | exact List.Mem.head _ | apply List.Mem.tail)) rfl) .nil) ?_ (⟨_, rfl, rfl⟩)); all_goals (focus (repeat (first | exact Rems.all | exact Rems.nil | (apply Rems.own; (focus (repeat (first | exact OIn.here | apply OIn.there | apply OIn.over)))) | (apply Rems.cons; (focus (repeat (first | assumption | exact Rem.here | apply Rem.there | apply Rem.oH)))) | apply Rems.skip | apply Rems.oskip))))
set_option maxHeartbeats 4000000 in
set_option maxRecDepth 4000 in
theorem right_dc (x : IV) (n : Int) : DC Try.prog 18 #[.agg #[.int .i64 x.1, .int .i64 x.2], .int .i64 n] (.bool (rightB x n)) := by
  all_goals (try unfold RC)
  all_goals (try unfold DC)
  all_goals refine OC.of_sw Try.func18 rfl Try.ntmps18 (Nat.le_of_ble_eq_true rfl) fun C => ?_
  repeat' (first
    | ((with_reducible apply G.at); rfl; first
       | ((with_reducible apply G.move); rfl; rfl) | ((with_reducible apply G.assign); rfl; rfl)
       | ((with_reducible apply G.load0); rfl; rfl; (focus (repeat (first | exact List.Mem.head _ | assumption | apply List.Mem.tail | apply mem_oH))); rfl) | ((with_reducible apply G.load1); rfl; rfl; (focus (repeat (first | exact List.Mem.head _ | assumption | apply List.Mem.tail | apply mem_oH))); rfl)
       | ((with_reducible apply G.faddrh (k := 0)); rfl; rfl; rfl) | ((with_reducible apply G.faddrh (k := 1)); rfl; rfl; rfl) | ((with_reducible apply G.faddrh (k := 2)); rfl; rfl; rfl) | ((with_reducible apply G.faddrh (k := 3)); rfl; rfl; rfl) | ((with_reducible apply G.faddrh (k := 4)); rfl; rfl; rfl) | ((with_reducible apply G.faddrh (k := 5)); rfl; rfl; rfl) | ((with_reducible apply G.faddrh (k := 6)); rfl; rfl; rfl) | ((with_reducible apply G.faddrh (k := 7)); rfl; rfl; rfl)
       | ((with_reducible apply G.nilck); rfl; rfl) | ((with_reducible apply G.extract); rfl; rfl; rfl) | ((with_reducible apply G.len); rfl; rfl; rfl) | ((with_reducible apply G.pick1); rfl; rfl; rfl) | ((with_reducible apply G.pick0); rfl; rfl; rfl) | ((with_reducible apply G.unw); rfl) | ((with_reducible apply G.unw0); rfl)
       | ((with_reducible apply G.boxa); rfl; rfl; intro b) | ((with_reducible apply G.box); rfl; rfl; intro b) | ((with_reducible apply G.alloc); rfl; rfl; rfl; intro b)
       | ((with_reducible apply G.store); rfl; rfl; rfl; rfl; rfl; rfl; (focus (repeat (first | assumption | exact Rem.here | apply Rem.there | apply Rem.oH))); (exact Nat.le_of_ble_eq_true rfl); (focus (repeat (first | exact StOk.nil | (refine StOk.keep ?_ ?_; (focus ((repeat (first | exact List.Mem.head _ | assumption | apply List.Mem.tail | apply mem_oH)); done))) | refine StOk.gone (by kernel_rfl) ?_))); rfl)
       | ((with_reducible apply G.build); rfl; rfl; rfl) | ((with_reducible apply G.eqs); rfl; rfl; rfl; rfl; (kernel_rfl); (kernel_rfl)) | ((with_reducible apply G.nes); rfl; rfl; rfl; rfl; (kernel_rfl); (kernel_rfl))
       | ((with_reducible apply G.num); rfl; rfl; rfl; rfl; rfl; (first | ((with_reducible apply shl8); omega; omega) | ((with_reducible apply shl16); omega; omega) | ((with_reducible apply or8); omega; omega; omega; omega) | ((with_reducible apply or16); omega; omega; omega; omega) | ((with_reducible apply or24); omega; omega; omega; omega; omega; omega) | ((with_reducible apply i64_in); omega; omega) | ((with_reducible apply wrap8_in); omega; omega) | ((with_reducible apply u64_in); omega; omega) | with_reducible exact shr16 _ | with_reducible exact shr8 _ | with_reducible exact wrap8_mod _ | with_reducible exact shr32u _ | ((with_reducible apply and32u); omega; omega) | with_reducible exact wrap64_mod _))
       | ((with_reducible apply G.min2); rfl; rfl; rfl; (first | (apply if_pos; omega) | (apply if_neg; omega) | rfl)) | ((with_reducible apply G.max2); rfl; rfl; rfl; (first | (apply if_pos; omega) | (apply if_neg; omega) | rfl))
       | ((with_reducible apply G.pure); rfl; rfl; rfl; rfl; rfl)
       | ((with_reducible apply G.known true); rfl; rfl; rfl; (focus (first | with_reducible rfl | ((with_reducible apply decide_eq_true); omega) | ((with_reducible apply decide_eq_false); omega) | ((with_reducible apply beq_iff_eq.2); omega) | ((with_reducible apply beq_eq_false_iff_ne.2); omega) | ((with_reducible apply bne_iff_ne.2); omega) | ((with_reducible apply bne_eq_false_iff_eq.2); omega) | (simp; done)))) | ((with_reducible apply G.known false); rfl; rfl; rfl; (focus (first | with_reducible rfl | ((with_reducible apply decide_eq_true); omega) | ((with_reducible apply decide_eq_false); omega) | ((with_reducible apply beq_iff_eq.2); omega) | ((with_reducible apply beq_eq_false_iff_ne.2); omega) | ((with_reducible apply bne_iff_ne.2); omega) | ((with_reducible apply bne_eq_false_iff_eq.2); omega) | (simp; done))))
       | ((with_reducible apply G.split); rfl; rfl; rfl; all_goals (intro h; first | replace h := beq_t h | replace h := beq_f h | replace h := bne_t h | replace h := bne_f h | replace h := of_decide_eq_true h | replace h := of_decide_eq_false h | skip)))
    | with_reducible apply RG.done | with_reducible apply Q.tn | with_reducible apply Q.tr | with_reducible apply Q.te | with_reducible apply Q.bn | with_reducible apply Q.br | with_reducible apply Q.be | ((with_reducible apply Q.bx); decide) | with_reducible apply Q.tp | with_reducible apply Q.bp
    | with_reducible apply SW.seq | with_reducible apply SW.block | with_reducible apply SW.ret | with_reducible apply SW.skip | with_reducible apply SW.exit
    | ((with_reducible apply SW.cond1); rfl; (focus (first | with_reducible rfl | ((with_reducible apply decide_eq_true); omega) | ((with_reducible apply decide_eq_false); omega) | ((with_reducible apply beq_iff_eq.2); omega) | ((with_reducible apply beq_eq_false_iff_ne.2); omega) | ((with_reducible apply bne_iff_ne.2); omega) | ((with_reducible apply bne_eq_false_iff_eq.2); omega) | (simp; done)))) | ((with_reducible apply SW.cond0); rfl; (focus (first | with_reducible rfl | ((with_reducible apply decide_eq_true); omega) | ((with_reducible apply decide_eq_false); omega) | ((with_reducible apply beq_iff_eq.2); omega) | ((with_reducible apply beq_eq_false_iff_ne.2); omega) | ((with_reducible apply bne_iff_ne.2); omega) | ((with_reducible apply bne_eq_false_iff_eq.2); omega) | (simp; done))))
    | ((with_reducible apply SW.cond); rfl; all_goals (intro h; first | replace h := beq_t h | replace h := beq_f h | replace h := bne_t h | replace h := bne_f h | replace h := of_decide_eq_true h | replace h := of_decide_eq_false h | skip))
    | ((with_reducible apply SW.region0); kernel_rfl; rfl))
  all_goals ((first | refine Q.dret (.cons (.tmp rfl) .nil) ?_ | refine Q.dret (.cons (.cell rfl (by repeat (first | exact List.Mem.head _ | apply List.Mem.tail)) rfl) .nil) ?_ | refine Q.dret (.cons (.tmp rfl) (.cons (.tmp rfl) .nil)) ?_); (simp only [tupV, rightB]); (simp_all); (try omega); (try rfl))

theorem right_of {x : IV} {n : Int} (h1 : (!(spanOf n x.1).2.2) = false) (h2 : ¬ x.2 < (spanOf n x.1).1) (h3 : ¬ x.2 > (spanOf n x.1).2.1) : rightB x n = true := by
  have hr := spanOf_right x n
  rw [h1, decide_eq_false h2, decide_eq_false h3] at hr
  simpa using hr
theorem wrong1 {x : IV} {n : Int} (h1 : (!(spanOf n x.1).2.2) = true) : rightB x n = false := by
  have hr := spanOf_right x n
  rw [h1] at hr; simpa using hr
theorem wrong2 {x : IV} {n : Int} (h1 : x.2 < (spanOf n x.1).1) : rightB x n = false := by
  have hr := spanOf_right x n
  rw [decide_eq_true h1] at hr; simpa using hr
theorem wrong3 {x : IV} {n : Int} (h1 : x.2 > (spanOf n x.1).2.1) : rightB x n = false := by
  have hr := spanOf_right x n
  rw [decide_eq_true h1] at hr; simpa using hr
theorem all_succ {l : List IV} {j : Nat} {x : IV} {p : IV → Prop} (h : ∀ i y, i < j → l[i]? = some y → p y) (hx : l[j]? = some x) (hp : p x) : ∀ i y, i < j + 1 → l[i]? = some y → p y := by
  intro i y hi hy
  by_cases e : i = j
  · subst e; rw [hx] at hy; cases hy; exact hp
  · exact h i y (by omega) hy

set_option maxHeartbeats 4000000 in
set_option maxRecDepth 4000 in
theorem check_rc (H : Hp) (a : Option Addr) (c : Nat) (l : List IV) (hs : Has H a (cellsI l)) : RC Try.prog 19 #[.slice a l.length c] H (.tuple #[.int .i64 (chk l).1, .int .i64 (chk l).2]) := by
  rcases Nat.eq_zero_or_pos l.length with h0 | hpos
  case' inr => (obtain ⟨y, hy⟩ : ∃ x, l[l.length - 1]? = some x := ⟨_, List.getElem?_eq_getElem (by omega)⟩; have hne := cellsI_ne hy; have ha := hs.isa hne; have fins := cellsI_ins hy; have fop := cellsI_op hy; have f3 := cellsI_3 hy)
  all_goals (try unfold RC)
  all_goals (try unfold DC)
  all_goals refine OC.of_sw Try.func19 rfl Try.ntmps19 (Nat.le_of_ble_eq_true rfl) fun C => ?_
  repeat' (first
    | ((with_reducible apply SW.bloopI (id := 0) (α := Nat) (Inv := (fun j => j ≤ l.length ∧ ∀ i y, i < j → l[i]? = some y → rightB y l.length = true)) (I := (fun j => [(0, .slice a l.length c), (4, .int .i64 l.length), (5, .map (some b)), (21, .slice a l.length c), (22, .int .i64 l.length), (23, .int .i64 (j : Nat))])) (J := (fun _ => (b, .map (spansE l.length).toArray 9) :: H)) (μ := (fun j => l.length - j)) (x0 := 0)); (exact ⟨by omega, fun i y hi => absurd hi (by omega)⟩); (apply Exists.intro; apply And.intro; (focus (repeat (first | exact trivial | refine ⟨rfl, ?_⟩))); (focus (repeat (first | exact Rems.all | exact Rems.nil | (apply Rems.own; (focus (repeat (first | exact OIn.here | apply OIn.there | apply OIn.over)))) | (apply Rems.cons; (focus (repeat (first | assumption | exact Rem.here | apply Rem.there | apply Rem.oH)))) | apply Rems.skip | apply Rems.oskip)))); (intro j hj; obtain ⟨hj1, hj2⟩ := hj; rcases Nat.lt_or_ge j l.length with hlt | hge; case' inl => (obtain ⟨x, hx⟩ : ∃ x, l[j]? = some x := ⟨_, List.getElem?_eq_getElem (by omega)⟩; have hne := cellsI_ne hx; have ha := hs.isa hne; have eins := cellsI_ins hx; have eop := cellsI_op hx; have e3 := cellsI_3 hx)))
    | ((refine Exists.intro (j + 1) ?_); (apply Exists.intro); (refine ⟨?_, ?_, ?_, ?_⟩); (exact ⟨by omega, all_succ hj2 hx (by first | assumption | exact wrong1 (by assumption) | exact wrong2 (by assumption) | exact wrong3 (by assumption) | exact right_of (by assumption) (by assumption) (by assumption))⟩); (focus (repeat (first | exact trivial | refine ⟨rfl, ?_⟩))); (focus (repeat (first | exact Rems.all | exact Rems.nil | (apply Rems.own; (focus (repeat (first | exact OIn.here | apply OIn.there | apply OIn.over)))) | (apply Rems.cons; (focus (repeat (first | assumption | exact Rem.here | apply Rem.there | apply Rem.oH)))) | apply Rems.skip | apply Rems.oskip))); (omega))
    | ((with_reducible apply G.at); rfl; first
       | ((with_reducible apply G.move); rfl; rfl) | ((with_reducible apply G.assign); rfl; rfl)
       | ((with_reducible apply G.load0); rfl; rfl; (focus (repeat (first | exact List.Mem.head _ | assumption | apply List.Mem.tail | apply mem_oH))); rfl) | ((with_reducible apply G.load1); rfl; rfl; (focus (repeat (first | exact List.Mem.head _ | assumption | apply List.Mem.tail | apply mem_oH))); rfl)
       | ((with_reducible apply G.loadS0); rfl; rfl; (focus (repeat (first | assumption | exact Has.row (List.Mem.head _) | (apply Has.mine; assumption) | apply Has.tail | apply Has.oH | exact Has.nil))); assumption; (first | assumption | rfl)) | ((with_reducible apply G.loadS1); rfl; rfl; (first | assumption | exact Has.row (List.Mem.head _)); (focus (intro p hp; repeat (first | assumption | apply List.Mem.tail | apply mem_oH))); assumption; (first | assumption | rfl); intro _ _ _)
       | ((with_reducible apply G.faddrh (k := 0)); rfl; rfl; rfl) | ((with_reducible apply G.faddrh (k := 1)); rfl; rfl; rfl) | ((with_reducible apply G.faddrh (k := 2)); rfl; rfl; rfl) | ((with_reducible apply G.faddrh (k := 3)); rfl; rfl; rfl) | ((with_reducible apply G.faddrh (k := 4)); rfl; rfl; rfl) | ((with_reducible apply G.faddrh (k := 5)); rfl; rfl; rfl) | ((with_reducible apply G.faddrh (k := 6)); rfl; rfl; rfl) | ((with_reducible apply G.faddrh (k := 7)); rfl; rfl; rfl)
       | ((with_reducible apply G.faddrS (d := 0)); rfl; rfl; rfl; assumption) | ((with_reducible apply G.faddrS (d := 1)); rfl; rfl; rfl; assumption) | ((with_reducible apply G.faddrS (d := 2)); rfl; rfl; rfl; assumption) | ((with_reducible apply G.faddrS (d := 3)); rfl; rfl; rfl; assumption) | ((with_reducible apply G.faddrS (d := 4)); rfl; rfl; rfl; assumption) | ((with_reducible apply G.faddrS (d := 5)); rfl; rfl; rfl; assumption) | ((with_reducible apply G.faddrS (d := 6)); rfl; rfl; rfl; assumption) | ((with_reducible apply G.faddrS (d := 7)); rfl; rfl; rfl; assumption)
       | ((with_reducible apply G.iaddrS (size := 2) (j := j)); rfl; rfl; rfl; rfl; assumption; (first | rfl | omega); (first | assumption | omega))
       | ((with_reducible apply G.iaddrS (size := 2) (j := (l.length - 1))); rfl; rfl; rfl; rfl; assumption; (first | rfl | omega); (first | assumption | omega))
       | ((with_reducible apply G.lookup2); rfl; rfl; rfl; rfl; rfl; (focus (repeat (first | exact List.Mem.head _ | assumption | apply List.Mem.tail | apply mem_oH))); (exact look_spans _ _))
       | ((with_reducible apply G.hcall (f := 20)); rfl; rfl; exact Try.call20; (exact spans_oc _ _ (by omega) (by omega)); (intro _ _ _; exact StOk.nil); (rintro _ _ ⟨b, rfl, rfl⟩))
       | ((with_reducible apply G.nilck); rfl; rfl) | ((with_reducible apply G.extract); rfl; rfl; rfl) | ((with_reducible apply G.len); rfl; rfl; rfl) | ((with_reducible apply G.pick1); rfl; rfl; rfl) | ((with_reducible apply G.pick0); rfl; rfl; rfl) | ((with_reducible apply G.unw); rfl) | ((with_reducible apply G.unw0); rfl)
       | ((with_reducible apply G.boxa); rfl; rfl; intro b) | ((with_reducible apply G.box); rfl; rfl; intro b) | ((with_reducible apply G.alloc); rfl; rfl; rfl; intro b)
       | ((with_reducible apply G.store); rfl; rfl; rfl; rfl; rfl; rfl; (focus (repeat (first | assumption | exact Rem.here | apply Rem.there | apply Rem.oH))); (exact Nat.le_of_ble_eq_true rfl); (focus (repeat (first | exact StOk.nil | (refine StOk.keep ?_ ?_; (focus ((repeat (first | exact List.Mem.head _ | assumption | apply List.Mem.tail | apply mem_oH)); done))) | refine StOk.gone (by kernel_rfl) ?_))); rfl)
       | ((with_reducible apply G.build); rfl; rfl; rfl) | ((with_reducible apply G.eqs); rfl; rfl; rfl; rfl; (kernel_rfl); (kernel_rfl)) | ((with_reducible apply G.nes); rfl; rfl; rfl; rfl; (kernel_rfl); (kernel_rfl))
       | ((with_reducible apply G.num); rfl; rfl; rfl; rfl; rfl; (first | ((with_reducible apply shl8); omega; omega) | ((with_reducible apply shl16); omega; omega) | ((with_reducible apply or8); omega; omega; omega; omega) | ((with_reducible apply or16); omega; omega; omega; omega) | ((with_reducible apply or24); omega; omega; omega; omega; omega; omega) | ((with_reducible apply i64_in); omega; omega) | ((with_reducible apply wrap8_in); omega; omega) | ((with_reducible apply u64_in); omega; omega) | with_reducible exact shr16 _ | with_reducible exact shr8 _ | with_reducible exact wrap8_mod _ | with_reducible exact shr32u _ | ((with_reducible apply and32u); omega; omega) | with_reducible exact wrap64_mod _))
       | ((with_reducible apply G.min2); rfl; rfl; rfl; (first | (apply if_pos; omega) | (apply if_neg; omega) | rfl)) | ((with_reducible apply G.max2); rfl; rfl; rfl; (first | (apply if_pos; omega) | (apply if_neg; omega) | rfl))
       | ((with_reducible apply G.pure); rfl; rfl; rfl; rfl; rfl)
       | ((with_reducible apply G.known true); rfl; rfl; rfl; (focus (first | with_reducible rfl | ((with_reducible apply decide_eq_true); omega) | ((with_reducible apply decide_eq_false); omega) | ((with_reducible apply beq_iff_eq.2); omega) | ((with_reducible apply beq_eq_false_iff_ne.2); omega) | ((with_reducible apply bne_iff_ne.2); omega) | ((with_reducible apply bne_eq_false_iff_eq.2); omega) | (simp; done)))) | ((with_reducible apply G.known false); rfl; rfl; rfl; (focus (first | with_reducible rfl | ((with_reducible apply decide_eq_true); omega) | ((with_reducible apply decide_eq_false); omega) | ((with_reducible apply beq_iff_eq.2); omega) | ((with_reducible apply beq_eq_false_iff_ne.2); omega) | ((with_reducible apply bne_iff_ne.2); omega) | ((with_reducible apply bne_eq_false_iff_eq.2); omega) | (simp; done))))
       | ((with_reducible apply G.split); rfl; rfl; rfl; all_goals (intro h; first | replace h := beq_t h | replace h := beq_f h | replace h := bne_t h | replace h := bne_f h | replace h := of_decide_eq_true h | replace h := of_decide_eq_false h | skip)))
    | with_reducible apply RG.done | with_reducible apply Q.tn | with_reducible apply Q.tr | with_reducible apply Q.te | with_reducible apply Q.bn | with_reducible apply Q.br | with_reducible apply Q.be | ((with_reducible apply Q.bx); decide) | with_reducible apply Q.tp | with_reducible apply Q.bp
    | with_reducible apply SW.seq | with_reducible apply SW.block | with_reducible apply SW.ret | with_reducible apply SW.skip | with_reducible apply SW.exit
    | ((with_reducible apply SW.cond1); rfl; (focus (first | rfl | exact decide_eq_true (by omega) | exact decide_eq_false (by omega)))) | ((with_reducible apply SW.cond0); rfl; (focus (first | rfl | exact decide_eq_true (by omega) | exact decide_eq_false (by omega))))
    | ((with_reducible apply SW.cond); rfl; all_goals (intro h; first | replace h := beq_t h | replace h := beq_f h | replace h := bne_t h | replace h := bne_f h | replace h := of_decide_eq_true h | replace h := of_decide_eq_false h | skip))
    | ((with_reducible apply SW.region0); kernel_rfl; rfl))
  all_goals ((apply Q.rret (.cons (by first | exact .tmp rfl | exact .cell rfl (by repeat (first | exact List.Mem.head _ | apply List.Mem.tail)) rfl) (.cons (by first | exact .tmp rfl | exact .cell rfl (by repeat (first | exact List.Mem.head _ | apply List.Mem.tail)) rfl) .nil))); ((focus (repeat (first | exact Rems.all | exact Rems.nil | (apply Rems.own; (focus (repeat (first | exact OIn.here | apply OIn.there | apply OIn.over)))) | (apply Rems.cons; (focus (repeat (first | assumption | exact Rem.here | apply Rem.there | apply Rem.oH)))) | apply Rems.skip | apply Rems.oskip)))); (first
    | (rw [chk_size (by omega)]; rfl)
    | (rw [chk_bad (by omega) (by omega) hx (by first | assumption | exact wrong1 (by assumption) | exact wrong2 (by assumption) | exact wrong3 (by assumption) | exact right_of (by assumption) (by assumption) (by assumption)) hj2]; rfl)
    | (rw [chk_end (by omega) (by omega) hy (fun i y hi => hj2 i y (by omega))]; simp_all [tupV]; done)))
set_option maxHeartbeats 4000000 in
set_option maxRecDepth 4000 in
theorem rcheck_rc (H : Hp) (a : Option Addr) (c : Nat) (l : List IV) (hs : Has H a (cellsI l)) : RC Try.prog 14 #[.slice a l.length c] H (.tuple #[.int .i64 (chk l).1, .int .i64 (chk l).2]) := by
  rcases Nat.eq_zero_or_pos l.length with h0 | hpos
  case' inr => (obtain ⟨y, hy⟩ : ∃ x, l[l.length - 1]? = some x := ⟨_, List.getElem?_eq_getElem (by omega)⟩; have hne := cellsI_ne hy; have ha := hs.isa hne; have fins := cellsI_ins hy; have fop := cellsI_op hy; have f3 := cellsI_3 hy)
  all_goals (try unfold RC)
  all_goals (try unfold DC)
  all_goals refine OC.of_sw Try.func14 rfl Try.ntmps14 (Nat.le_of_ble_eq_true rfl) fun C => ?_
  repeat' (first
    | ((with_reducible apply SW.bloopI (id := 0) (α := Nat) (Inv := (fun j => j ≤ l.length ∧ ∀ i y, i < j → l[i]? = some y → rightB y l.length = true)) (I := (fun j => [(0, .slice a l.length c), (4, .int .i64 l.length), (5, .int .i64 (j : Nat))])) (J := (fun _ => H)) (μ := (fun j => l.length - j)) (x0 := 0)); (exact ⟨by omega, fun i y hi => absurd hi (by omega)⟩); (apply Exists.intro; apply And.intro; (focus (repeat (first | exact trivial | refine ⟨rfl, ?_⟩))); (focus (repeat (first | exact Rems.all | exact Rems.nil | (apply Rems.own; (focus (repeat (first | exact OIn.here | apply OIn.there | apply OIn.over)))) | (apply Rems.cons; (focus (repeat (first | assumption | exact Rem.here | apply Rem.there | apply Rem.oH)))) | apply Rems.skip | apply Rems.oskip)))); (intro j hj; obtain ⟨hj1, hj2⟩ := hj; rcases Nat.lt_or_ge j l.length with hlt | hge; case' inl => (obtain ⟨x, hx⟩ : ∃ x, l[j]? = some x := ⟨_, List.getElem?_eq_getElem (by omega)⟩; have hne := cellsI_ne hx; have ha := hs.isa hne; have eins := cellsI_ins hx; have eop := cellsI_op hx; have e3 := cellsI_3 hx)))
    | ((refine Exists.intro (j + 1) ?_); (apply Exists.intro); (refine ⟨?_, ?_, ?_, ?_⟩); (exact ⟨by omega, all_succ hj2 hx (by first | assumption | (simp_all; done))⟩); (focus (repeat (first | exact trivial | refine ⟨rfl, ?_⟩))); (focus (repeat (first | exact Rems.all | exact Rems.nil | (apply Rems.own; (focus (repeat (first | exact OIn.here | apply OIn.there | apply OIn.over)))) | (apply Rems.cons; (focus (repeat (first | assumption | exact Rem.here | apply Rem.there | apply Rem.oH)))) | apply Rems.skip | apply Rems.oskip))); (omega))
    | ((with_reducible apply G.at); rfl; first
       | ((with_reducible apply G.move); rfl; rfl) | ((with_reducible apply G.assign); rfl; rfl)
       | ((with_reducible apply G.load0); rfl; rfl; (focus (repeat (first | exact List.Mem.head _ | assumption | apply List.Mem.tail | apply mem_oH))); rfl) | ((with_reducible apply G.load1); rfl; rfl; (focus (repeat (first | exact List.Mem.head _ | assumption | apply List.Mem.tail | apply mem_oH))); rfl)
       | ((with_reducible apply G.loadS0); rfl; rfl; (focus (repeat (first | assumption | exact Has.row (List.Mem.head _) | (apply Has.mine; assumption) | apply Has.tail | apply Has.oH | exact Has.nil))); assumption; (first | assumption | rfl)) | ((with_reducible apply G.loadS1); rfl; rfl; (first | assumption | exact Has.row (List.Mem.head _)); (focus (intro p hp; repeat (first | assumption | apply List.Mem.tail | apply mem_oH))); assumption; (first | assumption | rfl); intro _ _ _)
       | ((with_reducible apply G.faddrh (k := 0)); rfl; rfl; rfl) | ((with_reducible apply G.faddrh (k := 1)); rfl; rfl; rfl) | ((with_reducible apply G.faddrh (k := 2)); rfl; rfl; rfl) | ((with_reducible apply G.faddrh (k := 3)); rfl; rfl; rfl) | ((with_reducible apply G.faddrh (k := 4)); rfl; rfl; rfl) | ((with_reducible apply G.faddrh (k := 5)); rfl; rfl; rfl) | ((with_reducible apply G.faddrh (k := 6)); rfl; rfl; rfl) | ((with_reducible apply G.faddrh (k := 7)); rfl; rfl; rfl)
       | ((with_reducible apply G.faddrS (d := 0)); rfl; rfl; rfl; assumption) | ((with_reducible apply G.faddrS (d := 1)); rfl; rfl; rfl; assumption) | ((with_reducible apply G.faddrS (d := 2)); rfl; rfl; rfl; assumption) | ((with_reducible apply G.faddrS (d := 3)); rfl; rfl; rfl; assumption) | ((with_reducible apply G.faddrS (d := 4)); rfl; rfl; rfl; assumption) | ((with_reducible apply G.faddrS (d := 5)); rfl; rfl; rfl; assumption) | ((with_reducible apply G.faddrS (d := 6)); rfl; rfl; rfl; assumption) | ((with_reducible apply G.faddrS (d := 7)); rfl; rfl; rfl; assumption)
       | ((with_reducible apply G.iaddrS (size := 2) (j := j)); rfl; rfl; rfl; rfl; assumption; (first | rfl | omega); (first | assumption | omega))
       | ((with_reducible apply G.iaddrS (size := 2) (j := (l.length - 1))); rfl; rfl; rfl; rfl; assumption; (first | rfl | omega); (first | assumption | omega))
       | ((with_reducible apply G.dcall (f := 18)); rfl; rfl; exact Try.call18; exact (right_dc _ _))
       | ((with_reducible apply G.nilck); rfl; rfl) | ((with_reducible apply G.extract); rfl; rfl; rfl) | ((with_reducible apply G.len); rfl; rfl; rfl) | ((with_reducible apply G.pick1); rfl; rfl; rfl) | ((with_reducible apply G.pick0); rfl; rfl; rfl) | ((with_reducible apply G.unw); rfl) | ((with_reducible apply G.unw0); rfl)
       | ((with_reducible apply G.boxa); rfl; rfl; intro b) | ((with_reducible apply G.box); rfl; rfl; intro b) | ((with_reducible apply G.alloc); rfl; rfl; rfl; intro b)
       | ((with_reducible apply G.store); rfl; rfl; rfl; rfl; rfl; rfl; (focus (repeat (first | assumption | exact Rem.here | apply Rem.there | apply Rem.oH))); (exact Nat.le_of_ble_eq_true rfl); (focus (repeat (first | exact StOk.nil | (refine StOk.keep ?_ ?_; (focus ((repeat (first | exact List.Mem.head _ | assumption | apply List.Mem.tail | apply mem_oH)); done))) | refine StOk.gone (by kernel_rfl) ?_))); rfl)
       | ((with_reducible apply G.build); rfl; rfl; rfl) | ((with_reducible apply G.eqs); rfl; rfl; rfl; rfl; (kernel_rfl); (kernel_rfl)) | ((with_reducible apply G.nes); rfl; rfl; rfl; rfl; (kernel_rfl); (kernel_rfl))
       | ((with_reducible apply G.num); rfl; rfl; rfl; rfl; rfl; (first | ((with_reducible apply shl8); omega; omega) | ((with_reducible apply shl16); omega; omega) | ((with_reducible apply or8); omega; omega; omega; omega) | ((with_reducible apply or16); omega; omega; omega; omega) | ((with_reducible apply or24); omega; omega; omega; omega; omega; omega) | ((with_reducible apply i64_in); omega; omega) | ((with_reducible apply wrap8_in); omega; omega) | ((with_reducible apply u64_in); omega; omega) | with_reducible exact shr16 _ | with_reducible exact shr8 _ | with_reducible exact wrap8_mod _ | with_reducible exact shr32u _ | ((with_reducible apply and32u); omega; omega) | with_reducible exact wrap64_mod _))
       | ((with_reducible apply G.min2); rfl; rfl; rfl; (first | (apply if_pos; omega) | (apply if_neg; omega) | rfl)) | ((with_reducible apply G.max2); rfl; rfl; rfl; (first | (apply if_pos; omega) | (apply if_neg; omega) | rfl))
       | ((with_reducible apply G.pure); rfl; rfl; rfl; rfl; rfl)
       | ((with_reducible apply G.known true); rfl; rfl; rfl; (focus (first | with_reducible rfl | ((with_reducible apply decide_eq_true); omega) | ((with_reducible apply decide_eq_false); omega) | ((with_reducible apply beq_iff_eq.2); omega) | ((with_reducible apply beq_eq_false_iff_ne.2); omega) | ((with_reducible apply bne_iff_ne.2); omega) | ((with_reducible apply bne_eq_false_iff_eq.2); omega) | (simp; done)))) | ((with_reducible apply G.known false); rfl; rfl; rfl; (focus (first | with_reducible rfl | ((with_reducible apply decide_eq_true); omega) | ((with_reducible apply decide_eq_false); omega) | ((with_reducible apply beq_iff_eq.2); omega) | ((with_reducible apply beq_eq_false_iff_ne.2); omega) | ((with_reducible apply bne_iff_ne.2); omega) | ((with_reducible apply bne_eq_false_iff_eq.2); omega) | (simp; done))))
       | ((with_reducible apply G.split); rfl; rfl; rfl; all_goals (intro h; first | replace h := beq_t h | replace h := beq_f h | replace h := bne_t h | replace h := bne_f h | replace h := of_decide_eq_true h | replace h := of_decide_eq_false h | skip)))
    | with_reducible apply RG.done | with_reducible apply Q.tn | with_reducible apply Q.tr | with_reducible apply Q.te | with_reducible apply Q.bn | with_reducible apply Q.br | with_reducible apply Q.be | ((with_reducible apply Q.bx); decide) | with_reducible apply Q.tp | with_reducible apply Q.bp
    | with_reducible apply SW.seq | with_reducible apply SW.block | with_reducible apply SW.ret | with_reducible apply SW.skip | with_reducible apply SW.exit
    | ((with_reducible apply SW.cond1); rfl; (focus (first | rfl | exact decide_eq_true (by omega) | exact decide_eq_false (by omega)))) | ((with_reducible apply SW.cond0); rfl; (focus (first | rfl | exact decide_eq_true (by omega) | exact decide_eq_false (by omega))))
    | ((with_reducible apply SW.cond); rfl; all_goals (intro h; first | replace h := beq_t h | replace h := beq_f h | replace h := bne_t h | replace h := bne_f h | replace h := of_decide_eq_true h | replace h := of_decide_eq_false h | skip))
    | ((with_reducible apply SW.region0); kernel_rfl; rfl))
  all_goals ((apply Q.rret (.cons (by first | exact .tmp rfl | exact .cell rfl (by repeat (first | exact List.Mem.head _ | apply List.Mem.tail)) rfl) (.cons (by first | exact .tmp rfl | exact .cell rfl (by repeat (first | exact List.Mem.head _ | apply List.Mem.tail)) rfl) .nil))); ((focus (repeat (first | exact Rems.all | exact Rems.nil | (apply Rems.own; (focus (repeat (first | exact OIn.here | apply OIn.there | apply OIn.over)))) | (apply Rems.cons; (focus (repeat (first | assumption | exact Rem.here | apply Rem.there | apply Rem.oH)))) | apply Rems.skip | apply Rems.oskip)))); (first
    | (rw [chk_size (by omega)]; rfl)
    | (rw [chk_bad (by omega) (by omega) hx (by first | assumption | (simp_all; done)) hj2]; rfl)
    | (rw [chk_end (by omega) (by omega) hy (fun i y hi => hj2 i y (by omega))]; simp_all [tupV]; done)))
theorem right_rng {x : IV} {n : Int} (hn : n ≤ 64) (h : rightB x n = true) : (1 ≤ x.1 ∧ x.1 ≤ 9) ∧ 0 ≤ x.2 ∧ x.2 ≤ 65536 := by
  unfold rightB at h
  repeat' split at h
  all_goals (simp at h)
  all_goals omega
theorem chk_ok {l : List IV} (h : (chk l).1 = 0) : 0 < l.length ∧ l.length ≤ 64 ∧ (∀ (i : Nat) (y : IV), l[i]? = some y → rightB y l.length = true) ∧ (∀ y : IV, l[l.length - 1]? = some y → y.1 = 8 ∨ y.1 = 9) := by
  by_cases h0 : l.length = 0 ∨ 64 < l.length
  · rw [chk_size h0] at h; cases h
  · have e : bad l = none := by
      cases hb : bad l with
      | none => rfl
      | some i => unfold chk at h; rw [if_neg h0, hb] at h; cases h
    refine ⟨by omega, by omega, fun i y hy => ?_, fun y hy => ?_⟩
    · unfold bad at e
      rw [List.findIdx?_eq_none_iff] at e
      simpa using e y (List.mem_of_getElem? hy)
    · unfold chk at h
      rw [if_neg h0, e] at h
      simp only [hy] at h
      split at h
      · cases h
      · rename_i hn; omega
theorem chk_cases (l : List IV) : (chk l).1 = 0 ∧ (chk l).2 = 0 ∨ (chk l).1 = 3 := by
  unfold chk
  split
  · exact .inr rfl
  · split
    · exact .inr rfl
    · split
      · split
        · exact .inr rfl
        · exact .inl ⟨rfl, rfl⟩
      · exact .inr rfl

end Go.Proofs.Ytnkgimjjfnanbaa
