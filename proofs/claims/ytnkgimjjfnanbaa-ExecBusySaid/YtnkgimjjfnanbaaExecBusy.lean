/- ExecBusy: the law holds of every input. -/
import Derived.Test.YtnkgimjjfnanbaaL
namespace Go.Proofs.Ytnkgimjjfnanbaa
open Go Go.RowKit Bw Go.ChangeShapes Go.WideShapes Go.ChangeAt
set_option linter.unusedSimpArgs false
set_option linter.unusedVariables false
attribute [local irreducible] OC RC DC XC

theorem few_q {a : Option Addr} {n c q : Nat} (hn : n ≤ c) (hq : q = min n 100) : DC Try.prog 9 #[.slice a n c] (.slice a q c) := by subst hq; exact few_dc a n c hn
theorem cells_take (L : List IV) (k : Nat) : cellsI (L.take k) = (cellsI L).take (k * 2) := by
  unfold cellsI
  induction L generalizing k with
  | nil => simp
  | cons x L ih =>
    cases k with
    | zero => simp
    | succ k => rw [List.take_succ_cons, List.flatMap_cons, List.flatMap_cons, ih, List.take_append]; simp [insC, Nat.add_mul]
theorem chk_busy {m : Int} (hm : 0 ≤ m ∧ m < 256) : (chk [(1, m + 1), (9, 0)]).1 = 0 := by
  obtain ⟨h1, h2⟩ := hm
  have r1 : rightB (1, m + 1) 2 = true := by unfold rightB; simp; omega
  have r2 : rightB (9, 0) 2 = true := by unfold rightB; simp
  rw [chk_end (x := (9, 0)) (by simp) (by simp) rfl (fun i y hi hy => by
    match i, hi with
    | 0, _ => simp at hy; subst hy; exact r1
    | 1, _ => simp at hy; subst hy; exact r2)]
  simp

set_option maxHeartbeats 4000000 in
set_option maxRecDepth 4000 in
theorem ExecBusy_rc (H : Hp) (m : Int) (hm : 0 ≤ m ∧ m < 256) (a : Option Addr) (n c : Nat) (l : List IV) (hn : n ≤ c) (hl : l.length = min n 100) (hs : Has H a (cellsI l)) : RC Try.prog 5 #[.int .u8 m, .slice a n c] H (.bool true) := by
  obtain ⟨m1, m2⟩ := hm
  have hz := chk_busy ⟨m1, m2⟩
  have st0 : stp [(1, m + 1), (9, 0)] (0, 0) = ((1, m + 1), (1, m + 1), false) := by rw [stp_in (x := (1, m + 1)) (Int.lt_irrefl 0) hz ⟨by decide, by show (0:Int) < 2; decide⟩ rfl]; rfl
  have st2 : stp [(1, m + 1), (9, 0)] (1, 0) = ((9, 0), (1, 0), false) := by rw [stp_in (x := (9, 0)) (Int.lt_irrefl 0) hz ⟨by decide, by show (1:Int) < 2; decide⟩ rfl]; rfl
  have hS0 := fun (G0 : Hp) (a0 : Option Addr) (c0 : Nat) (hG : Has G0 a0 (cellsI [(1, m + 1), (9, 0)])) => step_rc G0 a0 c0 [(1, m + 1), (9, 0)] (0, 0) hG
  have hS2 := fun (G0 : Hp) (a0 : Option Addr) (c0 : Nat) (hG : Has G0 a0 (cellsI [(1, m + 1), (9, 0)])) => step_rc G0 a0 c0 [(1, m + 1), (9, 0)] (1, 0) hG
  simp only [st0] at hS0
  simp only [st2] at hS2
  have hS1 : ∀ k : Int, 0 < k → ∀ (G0 : Hp) (a0 : Option Addr) (c0 : Nat), Has G0 a0 (cellsI [(1, m + 1), (9, 0)]) → RC Try.prog 15 #[.slice a0 2 c0, .agg #[.int .i64 1, .int .i64 k]] G0 (.tuple #[.agg #[.int .i64 0, .int .i64 0], .agg #[.int .i64 1, .int .i64 k], .bool true]) := fun k hk G0 a0 c0 hG => by
    have := step_rc G0 a0 c0 [(1, m + 1), (9, 0)] (1, k) hG
    rw [stp_busy hk] at this; exact this
  have hSp : ∀ k : Int, 0 < k → ∀ (G0 : Hp), Has G0 a (cellsI l) → RC Try.prog 15 #[.slice a l.length c, .agg #[.int .i64 1, .int .i64 k]] G0 (.tuple #[.agg #[.int .i64 0, .int .i64 0], .agg #[.int .i64 1, .int .i64 k], .bool true]) := fun k hk G0 hG => by
    have := step_rc G0 a c l (1, k) hG
    rw [stp_busy hk] at this; exact this
  have hT : ∀ k : Int, 0 < k → k < 300 → DC Try.prog 16 #[.agg #[.int .i64 1, .int .i64 k]] (.agg #[.int .i64 1, .int .i64 (k - 1)]) := fun k h0 h1 => by
    have := tick_dc (1, k) ⟨by show _ ≤ k; omega, by show k < _; omega⟩
    unfold tickF at this; simp only [h0, if_true] at this; exact this
  have hT0 : DC Try.prog 16 #[.agg #[.int .i64 1, .int .i64 0]] (.agg #[.int .i64 1, .int .i64 0]) := tick_dc (1, 0) ⟨by decide, by decide⟩
  all_goals (try unfold RC)
  all_goals (try unfold DC)
  all_goals refine OC.of_sw Try.func5 rfl Try.ntmps5 (Nat.le_of_ble_eq_true rfl) fun C => ?_
  repeat' (first
    | ((with_reducible apply SW.bloopI (id := 0) (α := (Nat × Int)) (Inv := (fun (s : Nat × Int) => (s.1 : Int) ≤ m + 1 ∧ s.2 = m + 1 - s.1)) (I := (fun (s : Nat × Int) => match s with | (i, k) => [(0, .int .u8 m), (1, .slice a l.length c), (5, .slice (some ⟨bq, 0, none⟩) 2 2), (7, .pointer (some ⟨bf, 0, none⟩)), (9, .int .i64 (i : Nat))])) (J := (fun (s : Nat × Int) => match s with | (i, k) => (bf, AObj.row 32 [.int .i64 1, .int .i64 k] 0)   :: (bq, AObj.row 35 (cellsI [(1, m + 1), (9, 0)]) 0) :: H)) (μ := (fun s => (m + 1).toNat - s.1)) (x0 := (0, m + 1))); ((exact ⟨by (try dsimp only); omega, by (try dsimp only); omega⟩)); (apply Exists.intro; apply And.intro; (focus (repeat (first | exact trivial | refine ⟨rfl, ?_⟩))); (focus (repeat (first | exact Rems.all | exact Rems.nil | (apply Rems.own; (focus (repeat (first | exact OIn.here | apply OIn.there | apply OIn.over)))) | (apply Rems.cons; (focus (repeat (first | assumption | exact Rem.here | apply Rem.there | apply Rem.oH)))) | apply Rems.skip | apply Rems.oskip)))); (rintro ⟨i, k⟩ hj; obtain ⟨hj1, hj2⟩ := hj; dsimp only at hj1 hj2; rcases (show (i : Int) ≤ m ∨ (i : Int) = m + 1 by omega) with hlt | hge; (case' inr => (obtain rfl : k = 0 := by omega))))
    | ((refine Exists.intro (i + 1, k - 1) ?_); (apply Exists.intro); (refine ⟨?_, ?_, ?_, ?_⟩); (exact ⟨by (try dsimp only); omega, by (try dsimp only); omega⟩); (focus (repeat (first | exact trivial | refine ⟨rfl, ?_⟩))); (focus (repeat (first | exact Rems.all | exact Rems.nil | (apply Rems.own; (focus (repeat (first | exact OIn.here | apply OIn.there | apply OIn.over)))) | (apply Rems.cons; (focus (repeat (first | assumption | exact Rem.here | apply Rem.there | apply Rem.oH)))) | apply Rems.skip | apply Rems.oskip))); ((try dsimp only); omega))
    | ((with_reducible apply G.at); rfl; first
       | ((with_reducible apply G.move); rfl; rfl) | ((with_reducible apply G.assign); rfl; rfl)
       | ((with_reducible apply G.load0); rfl; rfl; (focus (repeat (first | exact List.Mem.head _ | assumption | apply List.Mem.tail | apply mem_oH))); rfl) | ((with_reducible apply G.load1); rfl; rfl; (focus (repeat (first | exact List.Mem.head _ | assumption | apply List.Mem.tail | apply mem_oH))); rfl)
       | ((with_reducible apply G.loadS0); rfl; rfl; (focus (repeat (first | assumption | exact Has.row (List.Mem.head _) | (apply Has.mine; assumption) | apply Has.tail | apply Has.oH | exact Has.nil))); assumption; (first | assumption | rfl)) | ((with_reducible apply G.loadS1); rfl; rfl; (first | assumption | exact Has.row (List.Mem.head _)); (focus (intro p hp; repeat (first | assumption | apply List.Mem.tail | apply mem_oH))); assumption; (first | assumption | rfl); intro _ _ _)
       | ((with_reducible apply G.faddrh (k := 0)); rfl; rfl; rfl) | ((with_reducible apply G.faddrh (k := 1)); rfl; rfl; rfl) | ((with_reducible apply G.faddrh (k := 2)); rfl; rfl; rfl) | ((with_reducible apply G.faddrh (k := 3)); rfl; rfl; rfl) | ((with_reducible apply G.faddrh (k := 4)); rfl; rfl; rfl) | ((with_reducible apply G.faddrh (k := 5)); rfl; rfl; rfl) | ((with_reducible apply G.faddrh (k := 6)); rfl; rfl; rfl) | ((with_reducible apply G.faddrh (k := 7)); rfl; rfl; rfl)
       | ((with_reducible apply G.faddrS (d := 0)); rfl; rfl; rfl; assumption) | ((with_reducible apply G.faddrS (d := 1)); rfl; rfl; rfl; assumption) | ((with_reducible apply G.faddrS (d := 2)); rfl; rfl; rfl; assumption) | ((with_reducible apply G.faddrS (d := 3)); rfl; rfl; rfl; assumption) | ((with_reducible apply G.faddrS (d := 4)); rfl; rfl; rfl; assumption) | ((with_reducible apply G.faddrS (d := 5)); rfl; rfl; rfl; assumption) | ((with_reducible apply G.faddrS (d := 6)); rfl; rfl; rfl; assumption) | ((with_reducible apply G.faddrS (d := 7)); rfl; rfl; rfl; assumption)
       | ((with_reducible apply G.bslice); rfl; rfl; intro bq)
       | ((with_reducible apply G.alloc (e := 35)); rfl; rfl; rfl; intro bi)
       | ((with_reducible apply G.alloc (e := 32)); rfl; rfl; rfl; first | (have _ := bf; intro bn) | intro bf)
       | ((with_reducible apply G.dcall (f := 9)); rfl; rfl; exact Try.call9; exact few_q (q := l.length) hn hl)
       | ((with_reducible apply G.rcall (f := 10)); rfl; rfl; exact Try.call10; exact live_dc.rc; (focus (repeat (first | exact StOk.nil | (refine StOk.keep ?_ ?_; (focus ((repeat (first | exact List.Mem.head _ | assumption | apply List.Mem.tail | apply mem_oH)); done))) | refine StOk.gone (by kernel_rfl) ?_))))
       | ((with_reducible apply G.rcall (f := 15)); rfl; rfl; exact Try.call15; (first | (apply hS0; (focus (repeat (first | assumption | exact Has.row (List.Mem.head _) | (apply Has.mine; assumption) | apply Has.tail | apply Has.oH | exact Has.nil)))) | (apply hS1; omega; (focus (repeat (first | assumption | exact Has.row (List.Mem.head _) | (apply Has.mine; assumption) | apply Has.tail | apply Has.oH | exact Has.nil)))) | (apply hSp; omega; (focus (repeat (first | assumption | exact Has.row (List.Mem.head _) | (apply Has.mine; assumption) | apply Has.tail | apply Has.oH | exact Has.nil)))) | (apply hS2; (focus (repeat (first | assumption | exact Has.row (List.Mem.head _) | (apply Has.mine; assumption) | apply Has.tail | apply Has.oH | exact Has.nil))))); (focus (repeat (first | exact StOk.nil | (refine StOk.keep ?_ ?_; (focus ((repeat (first | exact List.Mem.head _ | assumption | apply List.Mem.tail | apply mem_oH)); done))) | refine StOk.gone (by kernel_rfl) ?_))))
       | ((with_reducible apply G.dcall (f := 16)); rfl; rfl; exact Try.call16; (first | (apply hT; omega; omega) | exact hT0))
       | ((with_reducible apply G.nilck); rfl; rfl) | ((with_reducible apply G.extract); rfl; rfl; rfl) | ((with_reducible apply G.len); rfl; rfl; rfl) | ((with_reducible apply G.pick1); rfl; rfl; rfl) | ((with_reducible apply G.pick0); rfl; rfl; rfl) | ((with_reducible apply G.unw); rfl) | ((with_reducible apply G.unw0); rfl)
       | ((with_reducible apply G.boxa); rfl; rfl; intro b) | ((with_reducible apply G.box); rfl; rfl; intro b) | ((with_reducible apply G.alloc); rfl; rfl; rfl; intro b)
       | ((with_reducible apply G.store); rfl; rfl; rfl; rfl; rfl; rfl; (focus (repeat (first | assumption | exact Rem.here | apply Rem.there | apply Rem.oH))); (exact Nat.le_of_ble_eq_true rfl); (focus (repeat (first | exact StOk.nil | (refine StOk.keep ?_ ?_; (focus ((repeat (first | exact List.Mem.head _ | assumption | apply List.Mem.tail | apply mem_oH)); done))) | refine StOk.gone (by kernel_rfl) ?_))); rfl)
       | ((with_reducible apply G.build); rfl; rfl; rfl) | ((with_reducible apply G.eqs); rfl; rfl; rfl; rfl; (kernel_rfl); (kernel_rfl)) | ((with_reducible apply G.nes); rfl; rfl; rfl; rfl; (kernel_rfl); (kernel_rfl))
       | ((with_reducible apply G.num); rfl; rfl; rfl; rfl; rfl; (first | ((with_reducible apply shl8); omega; omega) | ((with_reducible apply shl16); omega; omega) | ((with_reducible apply or8); omega; omega; omega; omega) | ((with_reducible apply or16); omega; omega; omega; omega) | ((with_reducible apply or24); omega; omega; omega; omega; omega; omega) | ((with_reducible apply i64_in); omega; omega) | ((with_reducible apply wrap8_in); omega; omega) | ((with_reducible apply u64_in); omega; omega) | with_reducible exact shr16 _ | with_reducible exact shr8 _ | with_reducible exact wrap8_mod _ | with_reducible exact shr32u _ | ((with_reducible apply and32u); omega; omega) | with_reducible exact wrap64_mod _))
       | ((with_reducible apply G.min2); rfl; rfl; rfl; (first | (apply if_pos; omega) | (apply if_neg; omega) | rfl)) | ((with_reducible apply G.max2); rfl; rfl; rfl; (first | (apply if_pos; omega) | (apply if_neg; omega) | rfl))
       | ((with_reducible apply G.pure); rfl; rfl; rfl; rfl; rfl)
       | ((with_reducible apply G.known true); rfl; rfl; rfl; (focus (first | with_reducible rfl | ((with_reducible apply decide_eq_true); omega) | ((with_reducible apply decide_eq_false); omega) | ((with_reducible apply beq_iff_eq.2); omega) | ((with_reducible apply beq_eq_false_iff_ne.2); omega) | ((with_reducible apply bne_iff_ne.2); omega) | ((with_reducible apply bne_eq_false_iff_eq.2); omega) | (simp; done)))) | ((with_reducible apply G.known false); rfl; rfl; rfl; (focus (first | with_reducible rfl | ((with_reducible apply decide_eq_true); omega) | ((with_reducible apply decide_eq_false); omega) | ((with_reducible apply beq_iff_eq.2); omega) | ((with_reducible apply beq_eq_false_iff_ne.2); omega) | ((with_reducible apply bne_iff_ne.2); omega) | ((with_reducible apply bne_eq_false_iff_eq.2); omega) | (simp; done))))
       | ((with_reducible apply G.split); rfl; rfl; rfl; all_goals (intro h; first | replace h := beq_t h | replace h := beq_f h | replace h := bne_t h | replace h := bne_f h | replace h := of_decide_eq_true h | replace h := of_decide_eq_false h | skip)))
    | with_reducible apply RG.done | with_reducible apply Q.tn | with_reducible apply Q.tr | with_reducible apply Q.te | with_reducible apply Q.bn | with_reducible apply Q.br | with_reducible apply Q.be | ((with_reducible apply Q.bx); decide) | with_reducible apply Q.tp | with_reducible apply Q.bp
    | with_reducible apply SW.seq | with_reducible apply SW.block | with_reducible apply SW.ret | with_reducible apply SW.skip | with_reducible apply SW.exit
    | ((with_reducible apply SW.cond1); rfl; (focus (first | with_reducible rfl | ((with_reducible apply decide_eq_true); omega) | ((with_reducible apply decide_eq_false); omega) | ((with_reducible apply beq_iff_eq.2); omega) | ((with_reducible apply beq_eq_false_iff_ne.2); omega) | ((with_reducible apply bne_iff_ne.2); omega) | ((with_reducible apply bne_eq_false_iff_eq.2); omega) | (simp; done)))) | ((with_reducible apply SW.cond0); rfl; (focus (first | with_reducible rfl | ((with_reducible apply decide_eq_true); omega) | ((with_reducible apply decide_eq_false); omega) | ((with_reducible apply beq_iff_eq.2); omega) | ((with_reducible apply beq_eq_false_iff_ne.2); omega) | ((with_reducible apply bne_iff_ne.2); omega) | ((with_reducible apply bne_eq_false_iff_eq.2); omega) | (simp; done))))
    | ((with_reducible apply SW.cond); rfl; all_goals (intro h; first | replace h := beq_t h | replace h := beq_f h | replace h := bne_t h | replace h := bne_f h | replace h := of_decide_eq_true h | replace h := of_decide_eq_false h | skip))
    | ((with_reducible apply SW.region0); kernel_rfl; rfl)
    | ((with_reducible apply SW.region1 (id := 15) [0, 1, 2, 3, 4, 5, 6, 7, 8, 9, 10, 11, 13, 12, 14, 15, 16]); rfl; kernel_rfl))
  all_goals ((apply Q.rret (.cons (by first | exact .tmp rfl | exact .cell rfl (by repeat (first | exact List.Mem.head _ | apply List.Mem.tail)) rfl) .nil)); ((focus (repeat (first | exact Rems.all | exact Rems.nil | (apply Rems.own; (focus (repeat (first | exact OIn.here | apply OIn.there | apply OIn.over)))) | (apply Rems.cons; (focus (repeat (first | assumption | exact Rem.here | apply Rem.there | apply Rem.oH)))) | apply Rems.skip | apply Rems.oskip)))); (first | rfl | (simp [tupV]; done)))

theorem ExecBusy_own : ownKnob Try.prog.godebug = none := by kernel_rfl
theorem ExecBusy_laid : laidOutB Try.prog = true := by kernel_rfl
set_option maxRecDepth 100000 in
theorem ExecBusy_lifted (os : Os) (started : os.Started) (H : Type) (enc : TypeId × Value → H) :
    ReturnsInHanded {} Try.checked os 5 .any (Rows.execBusySpec.pre6 enc Try.prog Try.f5 Rows.execBusyRow.domain false) (Rows.execBusySpec.post enc Try.prog Try.f5 false true false false) := by
  refine returnsInHanded_of_change (C := Try.checked) ExecBusy_own started (by kernel_rfl) Try.func5
    (ChangeSpec.witness6 (enc := enc) (C := Try.checked) false ⟨#[], #[.int .u8 0, .slice none 0 0], []⟩ 8 (by kernel_rfl) (by kernel_rfl) (by kernel_rfl) (by kernel_rfl)) ?_
  intro W base args ds gs before hval0 hW _ _
  have hval : ∀ (j : Nat) t v, Try.f5.params[j]? = some t → args[j]? = some v → Value.okWide Try.prog W .any base t v := hval0
  have hW' := hW
  obtain ⟨p, q, hA0, hV, rfl, _, _⟩ := hW
  obtain ⟨rfl, rfl⟩ := trodVars_none hV
  have hA : DataW.TrodAll enc Try.prog W 0 (fun _ => true) true Try.f5.params.toList args.toList ds p := hA0
  rw [Try.params5] at hA hval
  obtain ⟨v0, v1, d0, d1, p0, p1, rfl, rfl, rfl, h0, h1⟩ := trodAll_two hA

  obtain ⟨x0, rfl, _, _, w0⟩ := open_int Try.underlying5 (hval 0 5 _ rfl rfl) h0
  obtain ⟨a1, n1, c1, Hc1, els1, rfl, q11, q12, q13, q14, q15, q16, q17⟩ := open_slice Try.underlying22 4 (ks := [.i .i64, .i .i64]) (by kernel_rfl) (by kernel_rfl) (by decide) (hval 1 22 _ rfl rfl) h1
  obtain ⟨L1, rfl, hL1⟩ := pairs_of q14
  have s1 : Has Hc1 a1 (cellsI L1) := q15
  rw [List.length_map] at q11
  refine (RC.run (ExecBusy_rc Hc1 x0 (okI_u8 w0) a1 n1 c1 (L1.take (min n1 100)) q12 (by rw [List.length_take]; omega) (by rw [cells_take]; exact s1.take _)) q16).mono fun e W' ⟨he, hb⟩ => ?_
  subst he
  exact ⟨_, rfl, law_post ExecBusy_laid (by decide +kernel) rfl Try.underlying4 rfl (fun ds h => by match ds, h with | [d0, d1], _ => rfl) rfl hW' hb⟩

theorem ExecBusy_holds : Rows.ExecBusySaid :=
  OpenClaim.holds_of_wide 5 Try.f5 rfl rfl rfl rfl rfl rfl rfl ⟨rfl, rfl, rfl, rfl, rfl⟩ rfl rfl rfl rfl rfl (by kernel_rfl) Try.func5 (by kernel_rfl)
    (of_decide_eq_true (by kernel_rfl)) (by unfold Func.isWrapper; first | (rw [if_pos (by decide +kernel)]; kernel_rfl) | (rw [if_neg (by decide +kernel)]; exact ⟨rfl, rfl⟩))
    (fun os started H enc _ => ExecBusy_lifted os started H enc)

end Go.Proofs.Ytnkgimjjfnanbaa
