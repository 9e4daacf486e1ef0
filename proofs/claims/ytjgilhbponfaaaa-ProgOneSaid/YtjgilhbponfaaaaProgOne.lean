/- ProgOne: the law holds of every input. -/
import Derived.Test.YtjgilhbponfaaaaK
namespace Go.Proofs.Ytjgilhbponfaaaa
open Go Go.RowKit Bw Go.ChangeShapes Go.WideShapes Go.ChangeAt
attribute [local irreducible] OC RC DC

theorem nine (n : Int) : rightB (9, 0) n = true := by simp [rightB]
theorem chk_two (x : IV) : chk [x, (9, 0)] = if rightB x 2 = true then (0, 0) else (3, 0) := by
  cases h : rightB x 2
  · rw [chk_bad (j := 0) (x := x) (by simp) (by simp) rfl (by simpa using h) (fun i y hi => absurd hi (by omega))]; simp
  · rw [chk_end (x := (9, 0)) (by simp) (by simp) rfl (fun i y hi hy => by
      match i, hi with
      | 0, _ => simp at hy; subst hy; simpa using h
      | 1, _ => simp at hy; subst hy; exact nine _)]; simp
theorem chk_three (x : IV) : chk [(9, 0), x, (9, 0)] = if rightB x 3 = true then (0, 0) else (3, 1) := by
  cases h : rightB x 3
  · rw [chk_bad (j := 1) (x := x) (by simp) (by simp) rfl (by simpa using h) (fun i y hi hy => by
      match i, hi with
      | 0, _ => simp at hy; subst hy; exact nine _)]; simp
  · rw [chk_end (x := (9, 0)) (by simp) (by simp) rfl (fun i y hi hy => by
      match i, hi with
      | 0, _ => simp at hy; subst hy; exact nine _
      | 1, _ => simp at hy; subst hy; simpa using h
      | 2, _ => simp at hy; subst hy; exact nine _)]; simp
theorem right_up {x : IV} (h : rightB x 2 = true) : rightB x 3 = true := by
  unfold rightB at *
  repeat' split at h
  all_goals simp_all
  all_goals omega
theorem right_dn {x : IV} (h : ¬ rightB x 2 = true) (h8 : ¬ x.1 = 8) : ¬ rightB x 3 = true := by
  unfold rightB at *
  simp_all
theorem one_cases (x : IV) : (chk [x, (9, 0)] = (0, 0) ∧ chk [(9, 0), x, (9, 0)] = (0, 0)) ∨ (chk [x, (9, 0)] = (3, 0) ∧ chk [(9, 0), x, (9, 0)] = (3, 1)) ∨ (chk [x, (9, 0)] = (3, 0) ∧ x.1 = 8) := by
  rw [chk_two, chk_three]
  by_cases h : rightB x 2 = true
  · rw [if_pos h, if_pos (right_up h)]; exact .inl ⟨rfl, rfl⟩
  · by_cases h8 : x.1 = 8
    · rw [if_neg h]; exact .inr (.inr ⟨rfl, h8⟩)
    · rw [if_neg h, if_neg (right_dn h h8)]; exact .inr (.inl ⟨rfl, rfl⟩)

set_option maxHeartbeats 400000 in
set_option maxRecDepth 4000 in
theorem ProgOne_rc (x : IV) : DC Try.prog 5 #[.agg #[.int .i64 x.1, .int .i64 x.2]] (.bool true) := by
  all_goals (try unfold RC)
  all_goals (try unfold DC)
  all_goals refine OC.of_sw Try.func5 rfl Try.ntmps5 (Nat.le_of_ble_eq_true rfl) fun C => ?_
  repeat' (first
    | ((with_reducible apply G.at); rfl; first
       | ((with_reducible apply G.move); rfl; rfl) | ((with_reducible apply G.assign); rfl; rfl)
       | ((with_reducible apply G.load0); rfl; rfl; (focus (repeat (first | exact List.Mem.head _ | assumption | apply List.Mem.tail))); rfl) | ((with_reducible apply G.load1); rfl; rfl; (focus (repeat (first | exact List.Mem.head _ | assumption | apply List.Mem.tail))); rfl)
       | ((with_reducible apply G.faddrh (k := 0)); rfl; rfl; rfl) | ((with_reducible apply G.faddrh (k := 1)); rfl; rfl; rfl) | ((with_reducible apply G.faddrh (k := 2)); rfl; rfl; rfl) | ((with_reducible apply G.faddrh (k := 3)); rfl; rfl; rfl) | ((with_reducible apply G.faddrh (k := 4)); rfl; rfl; rfl) | ((with_reducible apply G.faddrh (k := 5)); rfl; rfl; rfl) | ((with_reducible apply G.faddrh (k := 6)); rfl; rfl; rfl) | ((with_reducible apply G.faddrh (k := 7)); rfl; rfl; rfl)
       | ((with_reducible apply G.bslice); rfl; rfl; intro b)
       | ((with_reducible apply G.rcall (f := 15)); rfl; rfl; exact Try.call15; exact live_dc.rc; (focus (repeat (first | exact StOk.nil | (refine StOk.keep ?_ ?_; (repeat (first | exact List.Mem.head _ | assumption | apply List.Mem.tail))) | refine StOk.gone (by kernel_rfl) ?_))))
       | ((with_reducible apply G.rcall (f := 13)); rfl; rfl; exact Try.call13; (first | exact check_rc _ _ _ [x, (9, 0)] (Has.row (List.Mem.head _)) | exact check_rc _ _ _ [(9, 0), x, (9, 0)] (Has.row (List.Mem.head _))); (focus (repeat (first | exact StOk.nil | (refine StOk.keep ?_ ?_; (repeat (first | exact List.Mem.head _ | assumption | apply List.Mem.tail))) | refine StOk.gone (by kernel_rfl) ?_))))
       | ((with_reducible apply G.rcall (f := 14)); rfl; rfl; exact Try.call14; (exact rcheck_rc _ _ _ [x, (9, 0)] (Has.row (List.Mem.head _))); (focus (repeat (first | exact StOk.nil | (refine StOk.keep ?_ ?_; (repeat (first | exact List.Mem.head _ | assumption | apply List.Mem.tail))) | refine StOk.gone (by kernel_rfl) ?_))))
       | ((with_reducible apply G.nilck); rfl; rfl) | ((with_reducible apply G.extract); rfl; rfl; rfl) | ((with_reducible apply G.len); rfl; rfl; rfl) | ((with_reducible apply G.pick1); rfl; rfl; rfl) | ((with_reducible apply G.pick0); rfl; rfl; rfl) | ((with_reducible apply G.unw); rfl) | ((with_reducible apply G.unw0); rfl)
       | ((with_reducible apply G.boxa); rfl; rfl; intro b) | ((with_reducible apply G.box); rfl; rfl; intro b) | ((with_reducible apply G.alloc); rfl; rfl; rfl; intro b)
       | ((with_reducible apply G.store); rfl; rfl; rfl; rfl; rfl; rfl; (first | exact Rem.here | exact .there .here | exact .there (.there .here) | exact .there (.there (.there .here)) | exact .there (.there (.there (.there .here))) | exact .there (.there (.there (.there (.there .here)))) | exact .there (.there (.there (.there (.there (.there .here))))) | exact .there (.there (.there (.there (.there (.there (.there .here))))))); (exact Nat.le_of_ble_eq_true rfl); (focus (repeat (first | exact StOk.nil | (refine StOk.keep ?_ ?_; (repeat (first | exact List.Mem.head _ | assumption | apply List.Mem.tail))) | refine StOk.gone (by kernel_rfl) ?_))); rfl)
       | ((with_reducible apply G.build); rfl; rfl; rfl) | ((with_reducible apply G.eqs); rfl; rfl; rfl; rfl; (kernel_rfl); (kernel_rfl)) | ((with_reducible apply G.nes); rfl; rfl; rfl; rfl; (kernel_rfl); (kernel_rfl))
       | ((with_reducible apply G.num); rfl; rfl; rfl; rfl; rfl; (first | exact i64_in _ (by omega) (by omega) | exact wrap8_in _ (by omega) (by omega) | exact u64_in _ (by omega) (by omega) | exact shr16 _ | exact shr8 _ | exact wrap8_mod _))
       | ((with_reducible apply G.pure); rfl; rfl; rfl; rfl; rfl)
       | ((with_reducible apply G.known true); rfl; rfl; rfl; (focus (first | rfl | (simp; done)))) | ((with_reducible apply G.known false); rfl; rfl; rfl; (focus (first | rfl | (simp; done))))
       | ((with_reducible apply G.split); rfl; rfl; rfl; all_goals (intro h; first | replace h := beq_t h | replace h := beq_f h | replace h := bne_t h | replace h := bne_f h | replace h := of_decide_eq_true h | replace h := of_decide_eq_false h | skip)))
    | with_reducible apply RG.done | with_reducible apply Q.tn | with_reducible apply Q.tr | with_reducible apply Q.te | with_reducible apply Q.bn | with_reducible apply Q.br | with_reducible apply Q.be | ((with_reducible apply Q.bx); decide)
    | with_reducible apply SW.seq | with_reducible apply SW.block | with_reducible apply SW.ret | with_reducible apply SW.skip | with_reducible apply SW.exit
    | ((with_reducible apply SW.cond1); rfl; (focus (rfl))) | ((with_reducible apply SW.cond0); rfl; (focus (rfl)))
    | ((with_reducible apply SW.cond); rfl; all_goals (intro h; first | replace h := beq_t h | replace h := beq_f h | replace h := bne_t h | replace h := bne_f h | replace h := of_decide_eq_true h | replace h := of_decide_eq_false h | skip))
    | ((with_reducible apply SW.region0); kernel_rfl; rfl))
  all_goals ((first | refine Q.dret (.cons (.tmp rfl) .nil) ?_ | refine Q.dret (.cons (.cell rfl (by repeat (first | exact List.Mem.head _ | apply List.Mem.tail)) rfl) .nil) ?_ | refine Q.dret (.cons (.tmp rfl) (.cons (.tmp rfl) .nil)) ?_); first | rfl | (simp only [tupV]; rcases one_cases x with ⟨o1, o2⟩ | ⟨o1, o2⟩ | ⟨o1, o2⟩ <;> simp_all))

theorem ProgOne_own : ownKnob Try.prog.godebug = none := by kernel_rfl
theorem ProgOne_laid : laidOutB Try.prog = true := by kernel_rfl
set_option maxRecDepth 100000 in
theorem ProgOne_lifted (os : Os) (started : os.Started) (H : Type) (enc : TypeId × Value → H) :
    ReturnsInHanded {} Try.checked os 5 .any (Rows.progOneSpec.pre6 enc Try.prog Try.f5 Rows.progOneRow.domain false) (Rows.progOneSpec.post enc Try.prog Try.f5 false true false false) := by
  refine returnsInHanded_of_change (C := Try.checked) ProgOne_own started (by kernel_rfl) Try.func5
    (ChangeSpec.witness6 (enc := enc) (C := Try.checked) false ⟨#[], #[.agg #[.int .i64 0, .int .i64 0]], []⟩ 8 (by kernel_rfl) (by kernel_rfl) (by kernel_rfl) (by kernel_rfl)) ?_
  intro W base args ds gs before hval0 hW _ _
  have hval : ∀ (j : Nat) t v, Try.f5.params[j]? = some t → args[j]? = some v → Value.okWide Try.prog W .any base t v := hval0
  have hW' := hW
  obtain ⟨p, q, hA0, hV, rfl, _, _⟩ := hW
  obtain ⟨rfl, rfl⟩ := trodVars_none hV
  have hA : DataW.TrodAll enc Try.prog W 0 (fun _ => true) true Try.f5.params.toList args.toList ds p := hA0
  rw [Try.params5] at hA hval
  obtain ⟨v0, d0, rfl, rfl, h0⟩ := trodAll_one hA
  obtain ⟨l0, rfl, m0⟩ := open_agg 4 (ks := [.i .i64, .i .i64]) (by kernel_rfl) (m := 2) (by kernel_rfl) (hval 0 31 _ rfl rfl) h0
  obtain ⟨L0, e0, k0⟩ := pairs_of (els := [l0]) (fun y hy => by rw [List.mem_singleton.1 hy]; exact m0)
  obtain ⟨x0, rfl, b0⟩ : ∃ x : IV, l0 = [.int .i64 x.1, .int .i64 x.2] ∧ I64 x.1 ∧ I64 x.2 := by
    match L0, e0, k0 with
    | [x], e, k => exact ⟨x, by simpa using e, okI_i64 (k x (List.mem_singleton.2 rfl)).1, okI_i64 (k x (List.mem_singleton.2 rfl)).2⟩
  refine ((ProgOne_rc x0).run W).mono fun e W' ⟨he, hb⟩ => ?_
  subst he
  exact ⟨_, rfl, law_post ProgOne_laid (by decide +kernel) rfl Try.underlying4 rfl (fun ds h => by match ds, h with | [d0], _ => rfl) rfl hW' hb⟩

theorem ProgOne_holds : Rows.ProgOneSaid :=
  OpenClaim.holds_of_wide 5 Try.f5 rfl rfl rfl rfl rfl rfl rfl ⟨rfl, rfl, rfl, rfl, rfl⟩ rfl rfl rfl rfl rfl (by kernel_rfl) Try.func5 (by kernel_rfl)
    (of_decide_eq_true (by kernel_rfl)) (by unfold Func.isWrapper; first | (rw [if_pos (by decide +kernel)]; kernel_rfl) | (rw [if_neg (by decide +kernel)]; exact ⟨rfl, rfl⟩))
    (fun os started H enc _ => ProgOne_lifted os started H enc)

end Go.Proofs.Ytjgilhbponfaaaa
