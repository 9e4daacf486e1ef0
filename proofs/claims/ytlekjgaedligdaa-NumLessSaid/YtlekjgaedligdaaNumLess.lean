/- NumLess: the law holds of every input. -/
import Derived.Test.YtlekjgaedligdaaK3
namespace Go.Proofs.Ytlekjgaedligdaa
open Go Go.RowKit Bw Go.ChangeShapes Go.WideShapes Go.ChangeAt
set_option linter.unusedSimpArgs false
set_option linter.unusedVariables false
attribute [local irreducible] OC RC DC XC


theorem four_cells {l : List Value} (h : MatchK [.i .u64, .i .u64, .i .u64, .i .u64] l) : ∃ a b c d, l = [.int .u64 a, .int .u64 b, .int .u64 c, .int .u64 d] ∧ U64 a ∧ U64 b ∧ U64 c ∧ U64 d := by
  have h5 := h.length
  match l, h5, h with
  | [v1, v2, v3, v4], _, h =>
    obtain ⟨⟨a, rfl, ha⟩, ⟨i, rfl, hi⟩, ⟨b, rfl, hb⟩, ⟨p, rfl, hp⟩, _⟩ := h
    exact ⟨a, i, b, p, rfl, okI_u64 ha, okI_u64 hi, okI_u64 hb, okI_u64 hp⟩

set_option maxHeartbeats 4000000 in
set_option maxRecDepth 4000 in
theorem NumLess_rc (H : Hp) (a b c e : Int) (ha : U64 a) (hb : U64 b) (hc : U64 c) (he : U64 e) : RC Try.prog 12 #[.agg #[.int .u64 a, .int .u64 b, .int .u64 c, .int .u64 e]] H (.bool true) := by
  obtain ⟨z1, e1⟩ : ∃ z, a * b = z := ⟨_, rfl⟩
  obtain ⟨z2, e2⟩ : ∃ z, c * e = z := ⟨_, rfl⟩
  have hl1 := less_dc a b c e ha hb hc he
  have hl2 := less_dc c e a b hc he ha hb
  have hl3 := less_dc a b b a ha hb hb ha
  have hm1 := mul_dc a b ha hb
  have hm2 := mul_dc c e hc he
  have hm3 := mul_dc b a hb ha
  rw [Int.mul_comm b a] at hl3 hm3
  rw [e1] at hl1 hl2 hl3 hm1 hm3
  rw [e2] at hl1 hl2 hm2
  rw [decide_eq_false (by omega : ¬ z1 < z1)] at hl3
  rcases Int.lt_trichotomy z1 z2 with k | k | k
  all_goals first | rw [decide_eq_true (by omega : z1 < z2)] at hl1 | rw [decide_eq_false (by omega : ¬ z1 < z2)] at hl1
  all_goals first | rw [decide_eq_true (by omega : z2 < z1)] at hl2 | rw [decide_eq_false (by omega : ¬ z2 < z1)] at hl2
  all_goals (try unfold RC)
  all_goals (try unfold DC)
  all_goals refine OC.of_sw Try.func12 rfl Try.ntmps12 (Nat.le_of_ble_eq_true rfl) fun C => ?_
  repeat' (first
    | ((with_reducible apply G.at); rfl; first
       | ((with_reducible apply G.move); rfl; rfl) | ((with_reducible apply G.assign); rfl; rfl)
       | ((with_reducible apply G.load0); rfl; rfl; (focus (repeat (first | exact List.Mem.head _ | assumption | apply List.Mem.tail | apply mem_oH))); rfl) | ((with_reducible apply G.load1); rfl; rfl; (focus (repeat (first | exact List.Mem.head _ | assumption | apply List.Mem.tail | apply mem_oH))); rfl)
       | ((with_reducible apply G.faddrh (k := 0)); rfl; rfl; rfl) | ((with_reducible apply G.faddrh (k := 1)); rfl; rfl; rfl) | ((with_reducible apply G.faddrh (k := 2)); rfl; rfl; rfl) | ((with_reducible apply G.faddrh (k := 3)); rfl; rfl; rfl) | ((with_reducible apply G.faddrh (k := 4)); rfl; rfl; rfl) | ((with_reducible apply G.faddrh (k := 5)); rfl; rfl; rfl) | ((with_reducible apply G.faddrh (k := 6)); rfl; rfl; rfl) | ((with_reducible apply G.faddrh (k := 7)); rfl; rfl; rfl)
       | ((with_reducible apply G.iarr (j := 0)); rfl; rfl; rfl; rfl; rfl; decide) | ((with_reducible apply G.iarr (j := 1)); rfl; rfl; rfl; rfl; rfl; decide) | ((with_reducible apply G.iarr (j := 2)); rfl; rfl; rfl; rfl; rfl; decide) | ((with_reducible apply G.iarr (j := 3)); rfl; rfl; rfl; rfl; rfl; decide)
       | ((with_reducible apply G.boxa (e := 30)); rfl; rfl; intro bw)
       | ((with_reducible apply G.box (e := 30)); rfl; rfl; intro bw)
       | ((with_reducible apply G.rcall (f := 14)); rfl; rfl; exact Try.call14; exact live_dc.rc; (focus (repeat (first | exact StOk.nil | (refine StOk.keep ?_ ?_; (focus ((repeat (first | exact List.Mem.head _ | assumption | apply List.Mem.tail | apply mem_oH)); done))) | refine StOk.gone (by kernel_rfl) ?_))))
       | ((with_reducible apply G.dcall (f := 30)); rfl; rfl; exact Try.call30; exact hl1)
       | ((with_reducible apply G.dcall (f := 30)); rfl; rfl; exact Try.call30; exact hl2)
       | ((with_reducible apply G.dcall (f := 30)); rfl; rfl; exact Try.call30; exact hl3)
       | ((with_reducible apply G.dcall (f := 22)); rfl; rfl; exact Try.call22; exact hm1)
       | ((with_reducible apply G.dcall (f := 22)); rfl; rfl; exact Try.call22; exact hm2)
       | ((with_reducible apply G.dcall (f := 22)); rfl; rfl; exact Try.call22; exact hm3)
       | ((with_reducible apply G.nilck); rfl; rfl) | ((with_reducible apply G.extract); rfl; rfl; rfl) | ((with_reducible apply G.len); rfl; rfl; rfl) | ((with_reducible apply G.pick1); rfl; rfl; rfl) | ((with_reducible apply G.pick0); rfl; rfl; rfl) | ((with_reducible apply G.unw); rfl) | ((with_reducible apply G.unw0); rfl)
       | ((with_reducible apply G.boxa); rfl; rfl; intro b) | ((with_reducible apply G.box); rfl; rfl; intro b) | ((with_reducible apply G.alloc); rfl; rfl; rfl; intro b)
       | ((with_reducible apply G.store); rfl; rfl; rfl; rfl; rfl; rfl; (focus (repeat (first | assumption | exact Rem.here | apply Rem.there | apply Rem.oH))); (exact Nat.le_of_ble_eq_true rfl); (focus (repeat (first | exact StOk.nil | (refine StOk.keep ?_ ?_; (focus ((repeat (first | exact List.Mem.head _ | assumption | apply List.Mem.tail | apply mem_oH)); done))) | refine StOk.gone (by kernel_rfl) ?_))); rfl)
       | ((with_reducible apply G.build); rfl; rfl; rfl) | ((with_reducible apply G.eqs); rfl; rfl; rfl; rfl; (kernel_rfl); (kernel_rfl)) | ((with_reducible apply G.nes); rfl; rfl; rfl; rfl; (kernel_rfl); (kernel_rfl))
       | ((with_reducible apply G.num); rfl; rfl; rfl; rfl; rfl; (first | ((with_reducible apply shl8); omega; omega) | ((with_reducible apply shl16); omega; omega) | ((with_reducible apply or8); omega; omega; omega; omega) | ((with_reducible apply or16); omega; omega; omega; omega) | ((with_reducible apply or24); omega; omega; omega; omega; omega; omega) | ((with_reducible apply i64_in); omega; omega) | ((with_reducible apply wrap8_in); omega; omega) | ((with_reducible apply u64_in); omega; omega) | with_reducible exact shr16 _ | with_reducible exact shr8 _ | with_reducible exact wrap8_mod _ | with_reducible exact shr32u _ | ((with_reducible apply and32u); omega; omega) | with_reducible exact wrap64_mod _))
       | ((with_reducible apply G.min2); rfl; rfl; rfl; (first | (apply if_pos; omega) | (apply if_neg; omega) | rfl)) | ((with_reducible apply G.max2); rfl; rfl; rfl; (first | (apply if_pos; omega) | (apply if_neg; omega) | rfl))
       | ((with_reducible apply G.pure); rfl; rfl; rfl; rfl; rfl)
       | ((with_reducible apply G.known true); rfl; rfl; rfl; (focus (first | with_reducible rfl | ((with_reducible apply decide_eq_true); omega) | ((with_reducible apply decide_eq_false); omega) | ((with_reducible apply beq_iff_eq.2); omega) | ((with_reducible apply beq_eq_false_iff_ne.2); omega) | ((with_reducible apply bne_iff_ne.2); omega) | ((with_reducible apply bne_eq_false_iff_eq.2); omega) | ((with_reducible apply bnot_t); omega) | ((with_reducible apply bnot_f); omega) | ((with_reducible apply dnot_t); omega) | ((with_reducible apply dnot_f); omega) | (simp; done) | (simp; omega)))) | ((with_reducible apply G.known false); rfl; rfl; rfl; (focus (first | with_reducible rfl | ((with_reducible apply decide_eq_true); omega) | ((with_reducible apply decide_eq_false); omega) | ((with_reducible apply beq_iff_eq.2); omega) | ((with_reducible apply beq_eq_false_iff_ne.2); omega) | ((with_reducible apply bne_iff_ne.2); omega) | ((with_reducible apply bne_eq_false_iff_eq.2); omega) | ((with_reducible apply bnot_t); omega) | ((with_reducible apply bnot_f); omega) | ((with_reducible apply dnot_t); omega) | ((with_reducible apply dnot_f); omega) | (simp; done) | (simp; omega))))
       | ((with_reducible apply G.split); rfl; rfl; rfl; all_goals (intro h; first | replace h := beq_t h | replace h := beq_f h | replace h := bne_t h | replace h := bne_f h | replace h := of_decide_eq_true h | replace h := of_decide_eq_false h | skip)))
    | with_reducible apply RG.done | with_reducible apply Q.tn | with_reducible apply Q.tr | with_reducible apply Q.te | with_reducible apply Q.bn | with_reducible apply Q.br | with_reducible apply Q.be | ((with_reducible apply Q.bx); decide) | with_reducible apply Q.tp | with_reducible apply Q.bp
    | with_reducible apply SW.seq | with_reducible apply SW.block | with_reducible apply SW.ret | with_reducible apply SW.skip | with_reducible apply SW.exit
    | ((with_reducible apply SW.cond1); rfl; (focus (first | with_reducible rfl | ((with_reducible apply decide_eq_true); omega) | ((with_reducible apply decide_eq_false); omega) | ((with_reducible apply beq_iff_eq.2); omega) | ((with_reducible apply beq_eq_false_iff_ne.2); omega) | ((with_reducible apply bne_iff_ne.2); omega) | ((with_reducible apply bne_eq_false_iff_eq.2); omega) | ((with_reducible apply bnot_t); omega) | ((with_reducible apply bnot_f); omega) | ((with_reducible apply dnot_t); omega) | ((with_reducible apply dnot_f); omega) | (simp; done) | (simp; omega)))) | ((with_reducible apply SW.cond0); rfl; (focus (first | with_reducible rfl | ((with_reducible apply decide_eq_true); omega) | ((with_reducible apply decide_eq_false); omega) | ((with_reducible apply beq_iff_eq.2); omega) | ((with_reducible apply beq_eq_false_iff_ne.2); omega) | ((with_reducible apply bne_iff_ne.2); omega) | ((with_reducible apply bne_eq_false_iff_eq.2); omega) | ((with_reducible apply bnot_t); omega) | ((with_reducible apply bnot_f); omega) | ((with_reducible apply dnot_t); omega) | ((with_reducible apply dnot_f); omega) | (simp; done) | (simp; omega))))
    | ((with_reducible apply SW.cond); rfl; all_goals (intro h; first | replace h := beq_t h | replace h := beq_f h | replace h := bne_t h | replace h := bne_f h | replace h := of_decide_eq_true h | replace h := of_decide_eq_false h | skip))
    | ((with_reducible apply SW.region0); kernel_rfl; rfl)
    | ((with_reducible apply SW.region1 (id := 1) [0, 1, 2, 3, 4, 5, 6, 7, 9, 10, 11, 12, 13, 14, 15, 16, 8, 17, 18, 19]); rfl; kernel_rfl)
    | ((with_reducible apply SW.region1 (id := 2) [0, 1, 2, 3, 5, 6, 7, 8, 4, 9, 10, 11]); rfl; kernel_rfl)
    | ((with_reducible apply SW.region1 (id := 3) [0, 1, 2, 3, 4, 5, 6, 7, 8, 9, 10, 11, 12, 13, 14, 15, 16, 17, 18, 19, 20, 21, 22, 23, 24, 25, 26, 27, 28, 29, 30, 31, 32, 33, 34, 36, 37, 38, 39, 35, 40, 41, 42, 43]); rfl; kernel_rfl))
  all_goals ((apply Q.rret (.cons (by first | exact .tmp rfl | exact .cell rfl (by repeat (first | exact List.Mem.head _ | apply List.Mem.tail)) rfl) .nil)); ((focus (repeat (first | exact Rems.all | exact Rems.nil | (apply Rems.own; (focus (repeat (first | exact OIn.here | apply OIn.there | apply OIn.over)))) | (apply Rems.cons; (focus (repeat (first | assumption | exact Rem.here | apply Rem.there | apply Rem.oH)))) | apply Rems.skip | apply Rems.oskip)))); (first | rfl | (simp [tupV]; done) | (simp [tupV]; omega)))

theorem NumLess_own : ownKnob Try.prog.godebug = none := by kernel_rfl
theorem NumLess_laid : laidOutB Try.prog = true := by kernel_rfl
set_option maxRecDepth 100000 in
theorem NumLess_lifted (os : Os) (started : os.Started) (H : Type) (enc : TypeId × Value → H) :
    ReturnsInHanded {} Try.checked os 12 .any (Rows.numLessSpec.pre6 enc Try.prog Try.f12 Rows.numLessRow.domain false) (Rows.numLessSpec.post enc Try.prog Try.f12 false true false false) := by
  refine returnsInHanded_of_change (C := Try.checked) NumLess_own started (by kernel_rfl) Try.func12
    (ChangeSpec.witness6 (enc := enc) (C := Try.checked) false ⟨#[], #[.agg #[.int .u64 0, .int .u64 0, .int .u64 0, .int .u64 0]], []⟩ 8 (by kernel_rfl) (by kernel_rfl) (by kernel_rfl) (by kernel_rfl)) ?_
  intro W base args ds gs before hval0 hW _ _
  have hval : ∀ (j : Nat) t v, Try.f12.params[j]? = some t → args[j]? = some v → Value.okWide Try.prog W .any base t v := hval0
  have hW' := hW
  obtain ⟨p, q, hA0, hV, rfl, _, _⟩ := hW
  obtain ⟨rfl, rfl⟩ := trodVars_none hV
  have hA : DataW.TrodAll enc Try.prog W 0 (fun _ => true) true Try.f12.params.toList args.toList ds p := hA0
  rw [Try.params12] at hA hval
  obtain ⟨v0, d0, rfl, rfl, h0⟩ := trodAll_one hA

  obtain ⟨l0, rfl, m0⟩ := open_agg 4 (ks := [.i .u64, .i .u64, .i .u64, .i .u64]) (by kernel_rfl) (m := 4) (by kernel_rfl) (hval 0 30 _ rfl rfl) h0
  obtain ⟨x0a, x0b, x0c, x0d, rfl, y0a, y0b, y0c, y0d⟩ := four_cells m0
  refine (RC.run (NumLess_rc [] x0a x0b x0c x0d y0a y0b y0c y0d) RoIn.nil).mono fun e W' ⟨he, hb⟩ => ?_
  subst he
  exact ⟨_, rfl, law_post NumLess_laid (by decide +kernel) rfl Try.underlying4 rfl (fun ds h => by match ds, h with | [d0], _ => rfl) rfl hW' hb⟩

theorem NumLess_holds : Rows.NumLessSaid :=
  OpenClaim.holds_of_wide 12 Try.f12 rfl rfl rfl rfl rfl rfl rfl ⟨rfl, rfl, rfl, rfl, rfl⟩ rfl rfl rfl rfl rfl (by kernel_rfl) Try.func12 (by kernel_rfl)
    (of_decide_eq_true (by kernel_rfl)) (by unfold Func.isWrapper; first | (rw [if_pos (by decide +kernel)]; kernel_rfl) | (rw [if_neg (by decide +kernel)]; exact ⟨rfl, rfl⟩))
    (fun os started H enc _ => NumLess_lifted os started H enc)

end Go.Proofs.Ytlekjgaedligdaa
