/- GtabNone: the law holds of every input. -/
import Derived.Test.YtbfncpfmeankpaaKC
namespace Go.Proofs.Ytbfncpfmeankpaa
open Go Go.RowKit Bw Go.ChangeShapes Go.WideShapes Go.ChangeAt
set_option linter.unusedSimpArgs false
set_option linter.unusedVariables false
attribute [local irreducible] OC RC DC XC


theorem deed_cells {l : List Value} (h : MatchK [.i .i64, .i .i64, .i .u32, .i .i64] l) : ∃ k p g s, l = [.int .i64 k, .int .i64 p, .int .u32 g, .int .i64 s] := by
  have h5 := h.length
  match l, h5, h with
  | [v1, v2, v3, v4], _, h =>
    obtain ⟨⟨a, rfl, ha⟩, ⟨i, rfl, hi⟩, ⟨b, rfl, hb⟩, ⟨p, rfl, hp⟩, _⟩ := h
    exact ⟨a, i, b, p, rfl⟩
theorem id_cells {l : List Value} (h : MatchK [.i .i64, .i .u32] l) : ∃ p g, l = [.int .i64 p, .int .u32 g] := by
  have h5 := h.length
  match l, h5, h with
  | [v1, v2], _, h =>
    obtain ⟨⟨a, rfl, ha⟩, ⟨i, rfl, hi⟩, _⟩ := h
    exact ⟨a, i, rfl⟩
theorem deeds_of : ∀ {els : List (List Value)}, (∀ x ∈ els, MatchK [.i .i64, .i .i64, .i .u32, .i .i64] x) → ∃ l : List Deed, els = l.map deedC
  | [], _ => ⟨[], rfl⟩
  | x :: els, h => by
    obtain ⟨l, hl⟩ := deeds_of (els := els) fun y hy => h y (List.mem_cons_of_mem _ hy)
    obtain ⟨a, i, b, p, rfl⟩ := deed_cells (h x (List.mem_cons_self ..))
    exact ⟨⟨a, i, b, p⟩ :: l, by rw [hl]; rfl⟩

theorem new_n (H : Hp) (n : Int) (h1 : 1 ≤ n) (h2 : n ≤ 1024) : OC Try.prog 12 #[.int .i64 n] H (fun u H' => ∃ b v t, u = .pointer (some ⟨b, 0, none⟩) ∧ H' = tbH b t v H) := by
  have h := new_oc H n.toNat (by omega) (by omega)
  rw [show ((n.toNat : Nat) : Int) = n by omega] at h
  exact OC.mono h fun _ _ ⟨b, v, e1, e2, _⟩ => ⟨b, v, _, e1, e2⟩

set_option maxHeartbeats 4000000 in
set_option maxRecDepth 4000 in
theorem GtabNone_rc (H : Hp) (k p g s n : Int) : RC Try.prog 10 #[.agg #[.int .i64 k, .int .i64 p, .int .u32 g, .int .i64 s], .int .i64 n] H (.bool true) := by
  by_cases hin : 1 ≤ n ∧ n ≤ 1024
  all_goals (try unfold RC)
  all_goals (try unfold DC)
  all_goals refine OC.of_sw Try.func10 rfl Try.ntmps10 (Nat.le_of_ble_eq_true rfl) fun C => ?_
  repeat' (first
    | ((with_reducible apply G.at); rfl; first
       | ((with_reducible apply G.move); rfl; rfl) | ((with_reducible apply G.assign); rfl; rfl)
       | ((with_reducible apply G.load0); rfl; rfl; (focus (repeat (first | exact List.Mem.head _ | assumption | apply List.Mem.tail | apply mem_oH))); rfl) | ((with_reducible apply G.load1); rfl; rfl; (focus (repeat (first | exact List.Mem.head _ | assumption | apply List.Mem.tail | apply mem_oH))); rfl)
       | ((with_reducible apply G.faddrh (k := 0)); rfl; rfl; rfl) | ((with_reducible apply G.faddrh (k := 1)); rfl; rfl; rfl) | ((with_reducible apply G.faddrh (k := 2)); rfl; rfl; rfl) | ((with_reducible apply G.faddrh (k := 3)); rfl; rfl; rfl) | ((with_reducible apply G.faddrh (k := 4)); rfl; rfl; rfl) | ((with_reducible apply G.faddrh (k := 5)); rfl; rfl; rfl) | ((with_reducible apply G.faddrh (k := 6)); rfl; rfl; rfl) | ((with_reducible apply G.faddrh (k := 7)); rfl; rfl; rfl)
       | ((with_reducible apply G.boxa (e := 31)); rfl; rfl; intro bx)
       | ((with_reducible apply G.box (e := 31)); rfl; rfl; intro bx)
       | ((with_reducible apply G.alloc (e := 28)); rfl; rfl; rfl; intro ci)
       | ((with_reducible apply G.hcall (f := 14)); rfl; rfl; exact Try.call14; (exact alc_nil _); (rintro _ _ ⟨rfl, rfl⟩; (focus (repeat (first | exact StOk.nil | (refine StOk.keep ?_ ?_; (focus ((repeat (first | exact List.Mem.head _ | assumption | apply List.Mem.tail | apply mem_oH)); done))) | refine StOk.gone (by kernel_rfl) ?_)))); (rintro _ _ ⟨rfl, rfl⟩))
       | ((with_reducible apply G.dcall (f := 16)); rfl; rfl; exact Try.call16; exact state_nil _ _)
       | ((with_reducible apply G.rcall (f := 17)); rfl; rfl; exact Try.call17; exact live_dc.rc; (focus (repeat (first | exact StOk.nil | (refine StOk.keep ?_ ?_; (focus ((repeat (first | exact List.Mem.head _ | assumption | apply List.Mem.tail | apply mem_oH)); done))) | refine StOk.gone (by kernel_rfl) ?_))))
       | ((with_reducible apply G.dcall (f := 13)); rfl; rfl; exact Try.call13; exact rel_nil _ _)
       | ((with_reducible apply G.dcall (f := 23)); rfl; rfl; exact Try.call23; exact mov_nil _ _ _)
       | ((with_reducible apply G.hcall (f := 21)); rfl; rfl; exact Try.call21; (exact lives_nil _); (rintro _ _ ⟨rfl, rfl⟩; (focus (repeat (first | exact StOk.nil | (refine StOk.keep ?_ ?_; (focus ((repeat (first | exact List.Mem.head _ | assumption | apply List.Mem.tail | apply mem_oH)); done))) | refine StOk.gone (by kernel_rfl) ?_)))); (rintro _ _ ⟨rfl, rfl⟩))
       | ((with_reducible apply G.dcall (f := 15)); rfl; rfl; exact Try.call15; exact len_nil)
       | ((with_reducible apply G.dcall (f := 24)); rfl; rfl; exact Try.call24; exact fork_nil)
       | ((with_reducible apply G.hcall (f := 12)); rfl; rfl; exact Try.call12; (exact new_n _ _ hin.1 hin.2); (rintro _ _ ⟨bn, vn, F2, rfl, rfl⟩; (focus (repeat (first | exact StOk.nil | (refine StOk.keep ?_ ?_; (focus ((repeat (first | exact List.Mem.head _ | assumption | apply List.Mem.tail | apply mem_oH)); done))) | refine StOk.gone (by kernel_rfl) ?_)))); (rintro _ _ ⟨bn, vn, F2, rfl, rfl⟩))
       | ((with_reducible apply G.dcall (f := 12)); rfl; rfl; exact Try.call12; exact new_dc _ (by omega))
       | ((with_reducible apply G.nilck); rfl; rfl) | ((with_reducible apply G.extract); rfl; rfl; rfl) | ((with_reducible apply G.len); rfl; rfl; rfl) | ((with_reducible apply G.pick1); rfl; rfl; rfl) | ((with_reducible apply G.pick0); rfl; rfl; rfl) | ((with_reducible apply G.unw); rfl) | ((with_reducible apply G.unw0); rfl)
       | ((with_reducible apply G.boxa); rfl; rfl; intro b) | ((with_reducible apply G.box); rfl; rfl; intro b) | ((with_reducible apply G.alloc); rfl; rfl; rfl; intro b)
       | ((with_reducible apply G.store); rfl; rfl; rfl; rfl; rfl; rfl; (focus (repeat (first | assumption | exact Rem.here | apply Rem.there | apply Rem.oH))); (exact Nat.le_of_ble_eq_true rfl); (focus (repeat (first | exact StOk.nil | (refine StOk.keep ?_ ?_; (focus ((repeat (first | exact List.Mem.head _ | assumption | apply List.Mem.tail | apply mem_oH)); done))) | refine StOk.gone (by kernel_rfl) ?_))); rfl)
       | ((with_reducible apply G.build); rfl; rfl; rfl) | ((with_reducible apply G.eqs); rfl; rfl; rfl; rfl; (kernel_rfl); (kernel_rfl)) | ((with_reducible apply G.nes); rfl; rfl; rfl; rfl; (kernel_rfl); (kernel_rfl))
       | ((with_reducible apply G.num); rfl; rfl; rfl; rfl; rfl; (first | ((with_reducible apply shl8); omega; omega) | ((with_reducible apply shl16); omega; omega) | ((with_reducible apply or8); omega; omega; omega; omega) | ((with_reducible apply or16); omega; omega; omega; omega) | ((with_reducible apply or24); omega; omega; omega; omega; omega; omega) | ((with_reducible apply i64_in); omega; omega) | ((with_reducible apply wrap8_in); omega; omega) | ((with_reducible apply u64_in); omega; omega) | with_reducible exact shr16 _ | with_reducible exact shr8 _ | with_reducible exact wrap8_mod _ | with_reducible exact shr32u _ | ((with_reducible apply and32u); omega; omega) | with_reducible exact wrap64_mod _))
       | ((with_reducible apply G.min2); rfl; rfl; rfl; (first | (apply if_pos; omega) | (apply if_neg; omega) | rfl)) | ((with_reducible apply G.max2); rfl; rfl; rfl; (first | (apply if_pos; omega) | (apply if_neg; omega) | rfl))
       | ((with_reducible apply G.pure); rfl; rfl; rfl; rfl; rfl)
       | ((with_reducible apply G.known true); rfl; rfl; rfl; (focus (first | with_reducible rfl | ((with_reducible apply decide_eq_true); omega) | ((with_reducible apply decide_eq_false); omega) | ((with_reducible apply beq_iff_eq.2); omega) | ((with_reducible apply beq_eq_false_iff_ne.2); omega) | ((with_reducible apply bne_iff_ne.2); omega) | ((with_reducible apply bne_eq_false_iff_eq.2); omega) | ((with_reducible apply bnot_t); omega) | ((with_reducible apply bnot_f); omega) | ((with_reducible apply dnot_t); omega) | ((with_reducible apply dnot_f); omega) | (simp; done)))) | ((with_reducible apply G.known false); rfl; rfl; rfl; (focus (first | with_reducible rfl | ((with_reducible apply decide_eq_true); omega) | ((with_reducible apply decide_eq_false); omega) | ((with_reducible apply beq_iff_eq.2); omega) | ((with_reducible apply beq_eq_false_iff_ne.2); omega) | ((with_reducible apply bne_iff_ne.2); omega) | ((with_reducible apply bne_eq_false_iff_eq.2); omega) | ((with_reducible apply bnot_t); omega) | ((with_reducible apply bnot_f); omega) | ((with_reducible apply dnot_t); omega) | ((with_reducible apply dnot_f); omega) | (simp; done))))
       | ((with_reducible apply G.split); rfl; rfl; rfl; all_goals (intro h; first | replace h := beq_t h | replace h := beq_f h | replace h := bne_t h | replace h := bne_f h | replace h := of_decide_eq_true h | replace h := of_decide_eq_false h | skip)))
    | with_reducible apply RG.done | with_reducible apply Q.tn | with_reducible apply Q.tr | with_reducible apply Q.te | with_reducible apply Q.bn | with_reducible apply Q.br | with_reducible apply Q.be | ((with_reducible apply Q.bx); decide) | with_reducible apply Q.tp | with_reducible apply Q.bp
    | with_reducible apply SW.seq | with_reducible apply SW.block | with_reducible apply SW.ret | with_reducible apply SW.skip | with_reducible apply SW.exit
    | ((with_reducible apply SW.cond1); rfl; (focus (first | with_reducible rfl | ((with_reducible apply decide_eq_true); omega) | ((with_reducible apply decide_eq_false); omega) | ((with_reducible apply beq_iff_eq.2); omega) | ((with_reducible apply beq_eq_false_iff_ne.2); omega) | ((with_reducible apply bne_iff_ne.2); omega) | ((with_reducible apply bne_eq_false_iff_eq.2); omega) | ((with_reducible apply bnot_t); omega) | ((with_reducible apply bnot_f); omega) | ((with_reducible apply dnot_t); omega) | ((with_reducible apply dnot_f); omega) | (simp; done)))) | ((with_reducible apply SW.cond0); rfl; (focus (first | with_reducible rfl | ((with_reducible apply decide_eq_true); omega) | ((with_reducible apply decide_eq_false); omega) | ((with_reducible apply beq_iff_eq.2); omega) | ((with_reducible apply beq_eq_false_iff_ne.2); omega) | ((with_reducible apply bne_iff_ne.2); omega) | ((with_reducible apply bne_eq_false_iff_eq.2); omega) | ((with_reducible apply bnot_t); omega) | ((with_reducible apply bnot_f); omega) | ((with_reducible apply dnot_t); omega) | ((with_reducible apply dnot_f); omega) | (simp; done))))
    | ((with_reducible apply SW.cond); rfl; all_goals (intro h; first | replace h := beq_t h | replace h := beq_f h | replace h := bne_t h | replace h := bne_f h | replace h := of_decide_eq_true h | replace h := of_decide_eq_false h | skip))
    | ((with_reducible apply SW.region0); kernel_rfl; rfl))
  all_goals ((apply Q.rret (.cons (by first | exact .tmp rfl | exact .cell rfl (by repeat (first | exact List.Mem.head _ | apply List.Mem.tail)) rfl) .nil)); ((focus (repeat (first | exact Rems.all | exact Rems.nil | (apply Rems.own; (focus (repeat (first | exact OIn.here | apply OIn.there | apply OIn.over)))) | (apply Rems.cons; (focus (repeat (first | assumption | exact Rem.here | apply Rem.there | apply Rem.oH)))) | apply Rems.skip | apply Rems.oskip)))); (first | rfl | (simp [tupV]; done) | (simp [tupV]; omega)))

theorem GtabNone_own : ownKnob Try.prog.godebug = none := by kernel_rfl
theorem GtabNone_laid : laidOutB Try.prog = true := by kernel_rfl
set_option maxRecDepth 100000 in
theorem GtabNone_lifted (os : Os) (started : os.Started) (H : Type) (enc : TypeId × Value → H) :
    ReturnsInHanded {} Try.checked os 10 .any (Rows.gtabNoneSpec.pre6 enc Try.prog Try.f10 Rows.gtabNoneRow.domain false) (Rows.gtabNoneSpec.post enc Try.prog Try.f10 false true false false) := by
  refine returnsInHanded_of_change (C := Try.checked) GtabNone_own started (by kernel_rfl) Try.func10
    (ChangeSpec.witness6 (enc := enc) (C := Try.checked) false ⟨#[], #[.agg #[.int .i64 0, .int .i64 0, .int .u32 0, .int .i64 0], .int .i64 0], []⟩ 8 (by kernel_rfl) (by kernel_rfl) (by kernel_rfl) (by kernel_rfl)) ?_
  intro W base args ds gs before hval0 hW _ _
  have hval : ∀ (j : Nat) t v, Try.f10.params[j]? = some t → args[j]? = some v → Value.okWide Try.prog W .any base t v := hval0
  have hW' := hW
  obtain ⟨p, q, hA0, hV, rfl, _, _⟩ := hW
  obtain ⟨rfl, rfl⟩ := trodVars_none hV
  have hA : DataW.TrodAll enc Try.prog W 0 (fun _ => true) true Try.f10.params.toList args.toList ds p := hA0
  rw [Try.params10] at hA hval
  obtain ⟨v0, v1, d0, d1, p0, p1, rfl, rfl, rfl, h0, h1⟩ := trodAll_two hA

  obtain ⟨l0, rfl, m0⟩ := open_agg 4 (ks := [.i .i64, .i .i64, .i .u32, .i .i64]) (by kernel_rfl) (m := 4) (by kernel_rfl) (hval 0 31 _ rfl rfl) h0
  obtain ⟨x0k, x0p, x0g, x0s, rfl⟩ := deed_cells m0
  obtain ⟨x1, rfl, _, _, w1⟩ := open_int Try.underlying3 (hval 1 3 _ rfl rfl) h1
  refine (RC.run (GtabNone_rc [] x0k x0p x0g x0s x1) RoIn.nil).mono fun e W' ⟨he, hb⟩ => ?_
  subst he
  exact ⟨_, rfl, law_post GtabNone_laid (by decide +kernel) rfl Try.underlying4 rfl (fun ds h => by match ds, h with | [d0, d1], _ => rfl) rfl hW' hb⟩

theorem GtabNone_holds : Rows.GtabNoneSaid :=
  OpenClaim.holds_of_wide 10 Try.f10 rfl rfl rfl rfl rfl rfl rfl ⟨rfl, rfl, rfl, rfl, rfl⟩ rfl rfl rfl rfl rfl (by kernel_rfl) Try.func10 (by kernel_rfl)
    (of_decide_eq_true (by kernel_rfl)) (by unfold Func.isWrapper; first | (rw [if_pos (by decide +kernel)]; kernel_rfl) | (rw [if_neg (by decide +kernel)]; exact ⟨rfl, rfl⟩))
    (fun os started H enc _ => GtabNone_lifted os started H enc)

end Go.Proofs.Ytbfncpfmeankpaa
