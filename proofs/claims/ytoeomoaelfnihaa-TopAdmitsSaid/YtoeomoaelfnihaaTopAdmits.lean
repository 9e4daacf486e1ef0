/- TopAdmits: the law holds of every input. -/
import Derived.Test.YtoeomoaelfnihaaK
namespace Go.Proofs.Ytoeomoaelfnihaa
open Go Go.RowKit Bw Go.ChangeShapes Go.WideShapes Go.ChangeAt
set_option linter.unusedSimpArgs false
set_option linter.unusedVariables false
attribute [local irreducible] OC RC DC XC


def fullS (k : Int) (j : Nat) : Svs := ⟨(k + 1) * 232792560, j * 232792560, List.replicate j (newV 20 20)⟩
theorem full_len (k : Int) (j : Nat) : (fullS k j).l.length = j := by simp [fullS]
theorem full_ok {k : Int} {j : Nat} (h0 : 0 ≤ k) (h1 : k < 8) (hj : (j : Int) ≤ k + 1) : (fullS k j).ok := by
  refine ⟨?_, ?_, ?_, by rw [full_len]; omega, fun x hx => ?_⟩
  · show (k + 1) * 232792560 ≤ _; omega
  · show 0 ≤ (j : Int) * 232792560; omega
  · show (j : Int) * 232792560 ≤ (k + 1) * 232792560; omega
  · rw [List.eq_of_mem_replicate hx]; unfold Srv.ok newV; dsimp only; omega
theorem full_adm {k : Int} {j : Nat} (h1 : k < 8) (hj : (j : Int) ≤ k) : admE (fullS k j) 20 20 = 0 ∧ admV (fullS k j) 20 20 = j ∧ admS (fullS k j) 20 20 = fullS k (j + 1) := by
  have ha : ask 20 20 = 232792560 := by decide
  obtain ⟨e1, e2, e3⟩ := adm_none (s := fullS k j) (b := 20) (p := 20) (by decide) (by rw [full_len]; omega) (by rw [ha]; show ¬ (k + 1) * 232792560 - (j : Int) * 232792560 < 232792560; omega)
  refine ⟨e1, by rw [e2, full_len], ?_⟩
  rw [e3, ha]
  unfold fullS
  refine Svs.mk.injEq .. |>.mpr ⟨rfl, ?_, ?_⟩
  · show (j : Int) * 232792560 + 232792560 = ((j + 1 : Nat) : Int) * 232792560; omega
  · exact (List.replicate_succ' ..).symm
theorem full_end {k : Int} {j : Nat} (h1 : k < 8) (hj : (j : Int) = k + 1) : admE (fullS k j) 1 232792560 = 10 ∧ admV (fullS k j) 1 232792560 = 0 ∧ admS (fullS k j) 1 232792560 = fullS k j := by
  have ha : ask 1 232792560 = 1 := by decide
  exact adm_ten (by decide) (by rw [full_len]; omega) (by rw [ha]; show (k + 1) * 232792560 - (j : Int) * 232792560 < 1; omega)
theorem full_new (H : Hp) (k : Int) (h1 : 0 ≤ k) (h2 : k < 8) : OC Try.prog 13 #[.int .i64 (k + 1)] H (fun u H' => ∃ b, u = .pointer (some ⟨b, 0, none⟩) ∧ H' = svH b (fullS k 0) none H) := new_oc H (k + 1) (by omega) (by omega)
theorem full_oc (k : Int) (j : Nat) (v : Own) (b : Nat) (F : Hp) (h0 : 0 ≤ k) (h1 : k < 8) (hj : (j : Int) ≤ k) (hv : OOk 5 v (fullS k j).l.length (cellsV (fullS k j).l)) : OC Try.prog 14 #[.pointer (some ⟨b, 0, none⟩), .int .u64 20, .int .u64 20] (svH b (fullS k j) v F) (fun u H' => u = .tuple #[.int .i64 (j : Nat), .int .i64 0] ∧ ∃ v', H' = svH b (fullS k (j + 1)) v' F ∧ OOk 5 v' (fullS k (j + 1)).l.length (cellsV (fullS k (j + 1)).l)) := by
  have h := admit_oc (fullS k j) v b 20 20 F (full_ok h0 h1 (by omega)) hv (by decide) (by decide)
  obtain ⟨e1, e2, e3⟩ := full_adm h1 hj
  rw [e1, e2, e3] at h; exact h
theorem over_oc (k : Int) (j : Nat) (v : Own) (b : Nat) (F : Hp) (h0 : 0 ≤ k) (h1 : k < 8) (hj : (j : Int) = k + 1) (hv : OOk 5 v (fullS k j).l.length (cellsV (fullS k j).l)) : OC Try.prog 14 #[.pointer (some ⟨b, 0, none⟩), .int .u64 1, .int .u64 232792560] (svH b (fullS k j) v F) (fun u H' => u = .tuple #[.int .i64 0, .int .i64 10] ∧ ∃ v', H' = svH b (fullS k j) v' F ∧ OOk 5 v' (fullS k j).l.length (cellsV (fullS k j).l)) := by
  have h := admit_oc (fullS k j) v b 1 232792560 F (full_ok h0 h1 (by omega)) hv (by decide) (by decide)
  obtain ⟨e1, e2, e3⟩ := full_end h1 hj
  rw [e1, e2, e3] at h; exact h
theorem full_sum (H : Hp) (b : Nat) (k : Int) (j : Nat) (v : Own) (hm : (b, svR (fullS k j) v) ∈ H) : RC Try.prog 15 #[.pointer (some ⟨b, 0, none⟩)] H (.int .u64 ((j : Int) * 232792560)) := sum_rc H b (fullS k j) v hm

set_option maxHeartbeats 4000000 in
set_option maxRecDepth 4000 in
theorem TopAdmits_rc (H : Hp) (n : Int) (hn : 0 ≤ n ∧ n < 256) : RC Try.prog 11 #[.int .u8 n] H (.bool true) := by
  obtain ⟨n1, n2⟩ := hn
  obtain ⟨k, hk⟩ : ∃ k, n % 8 = k := ⟨_, rfl⟩
  have hk0 : 0 ≤ k := by omega
  have hk1 : k < 8 := by omega
  all_goals (try unfold RC)
  all_goals (try unfold DC)
  all_goals refine OC.of_sw Try.func11 rfl Try.ntmps11 (Nat.le_of_ble_eq_true rfl) fun C => ?_
  repeat' (first
    | ((with_reducible apply SW.bloopI (id := 0) (α := (Nat × Own)) (Inv := (fun s => (s.1 : Int) ≤ k + 1 ∧ OOk 5 s.2 (fullS k s.1).l.length (cellsV (fullS k s.1).l))) (I := (fun s => [(3, .int .i64 (k + 1)), (4, .pointer (some ⟨b, 0, none⟩)), (5, .int .i64 (s.1 : Nat))])) (J := (fun s => svH b (fullS k s.1) s.2 H)) (μ := (fun s => (k + 1).toNat - s.1)) (x0 := (0, none))); (exact ⟨by omega, OOk.nil⟩); (apply Exists.intro; apply And.intro; (focus (repeat (first | exact trivial | refine ⟨rfl, ?_⟩))); (focus (repeat (first | exact Rems.all | exact Rems.nil | (apply Rems.own; (focus (repeat (first | exact OIn.here | apply OIn.there | apply OIn.over)))) | (apply Rems.cons; (focus (repeat (first | assumption | exact Rem.here | apply Rem.there | apply Rem.oH)))) | apply Rems.skip | apply Rems.oskip)))); (rintro ⟨j, v⟩ ⟨hj1, hj2⟩; dsimp only at hj1 hj2; rcases Int.lt_or_le j (k + 1) with hlt | hge))
    | ((refine Exists.intro (j + 1, v') ?_); (apply Exists.intro); (refine ⟨?_, ?_, ?_, ?_⟩); (exact ⟨by (try dsimp only); omega, by assumption⟩); (focus (repeat (first | exact trivial | refine ⟨rfl, ?_⟩))); (focus (repeat (first | exact Rems.all | exact Rems.nil | (apply Rems.own; (focus (repeat (first | exact OIn.here | apply OIn.there | apply OIn.over)))) | (apply Rems.cons; (focus (repeat (first | assumption | exact Rem.here | apply Rem.there | apply Rem.oH)))) | apply Rems.skip | apply Rems.oskip))); ((try dsimp only); omega))
    | ((with_reducible apply G.at); rfl; first
       | ((with_reducible apply G.move); rfl; rfl) | ((with_reducible apply G.assign); rfl; rfl)
       | ((with_reducible apply G.load0); rfl; rfl; (focus (repeat (first | exact List.Mem.head _ | assumption | apply List.Mem.tail | apply mem_oH))); rfl) | ((with_reducible apply G.load1); rfl; rfl; (focus (repeat (first | exact List.Mem.head _ | assumption | apply List.Mem.tail | apply mem_oH))); rfl)
       | ((with_reducible apply G.faddrh (k := 0)); rfl; rfl; rfl) | ((with_reducible apply G.faddrh (k := 1)); rfl; rfl; rfl) | ((with_reducible apply G.faddrh (k := 2)); rfl; rfl; rfl) | ((with_reducible apply G.faddrh (k := 3)); rfl; rfl; rfl) | ((with_reducible apply G.faddrh (k := 4)); rfl; rfl; rfl) | ((with_reducible apply G.faddrh (k := 5)); rfl; rfl; rfl) | ((with_reducible apply G.faddrh (k := 6)); rfl; rfl; rfl) | ((with_reducible apply G.faddrh (k := 7)); rfl; rfl; rfl)
       | ((with_reducible apply G.remc); rfl; rfl; rfl; omega; omega; exact hk)
       | ((with_reducible apply G.hcall (f := 13)); rfl; rfl; exact Try.call13; (exact full_new _ _ (by omega) (by omega)); (intro _ _ _; exact StOk.nil); (rintro _ _ ⟨b, rfl, rfl⟩))
       | ((with_reducible apply G.gcall (f := 14)); rfl; rfl; exact Try.call14; (first | (apply full_oc (k := k) (j := j); rotate_left; omega; omega; omega; assumption) | (apply over_oc (k := k) (j := j); rotate_left; omega; omega; omega; assumption)); (focus (repeat (first | exact Pick.rest | ((with_reducible apply Pick.own); (focus (repeat (first | exact OIn.here | apply OIn.there | apply OIn.over)))) | ((with_reducible apply Pick.cons); (focus (repeat (first | assumption | exact Rem.here | apply Rem.there | apply Rem.oH))))))); (rintro _ _ ⟨rfl, v', rfl, hv'⟩; exact StOk.nil); (rintro _ _ ⟨rfl, v', rfl, hv'⟩))
       | ((with_reducible apply G.rcall (f := 15)); rfl; rfl; exact Try.call15; ((apply full_sum (k := k) (j := j)); (focus (repeat (first | exact List.Mem.head _ | assumption | apply List.Mem.tail | apply mem_oH)))); (focus (repeat (first | exact StOk.nil | (refine StOk.keep ?_ ?_; (focus ((repeat (first | exact List.Mem.head _ | assumption | apply List.Mem.tail | apply mem_oH)); done))) | refine StOk.gone (by kernel_rfl) ?_))))
       | ((with_reducible apply G.nilck); rfl; rfl) | ((with_reducible apply G.extract); rfl; rfl; rfl) | ((with_reducible apply G.len); rfl; rfl; rfl) | ((with_reducible apply G.pick1); rfl; rfl; rfl) | ((with_reducible apply G.pick0); rfl; rfl; rfl) | ((with_reducible apply G.unw); rfl) | ((with_reducible apply G.unw0); rfl)
       | ((with_reducible apply G.boxa); rfl; rfl; intro b) | ((with_reducible apply G.box); rfl; rfl; intro b) | ((with_reducible apply G.alloc); rfl; rfl; rfl; intro b)
       | ((with_reducible apply G.store); rfl; rfl; rfl; rfl; rfl; rfl; (focus (repeat (first | assumption | exact Rem.here | apply Rem.there | apply Rem.oH))); (exact Nat.le_of_ble_eq_true rfl); (focus (repeat (first | exact StOk.nil | (refine StOk.keep ?_ ?_; (focus ((repeat (first | exact List.Mem.head _ | assumption | apply List.Mem.tail | apply mem_oH)); done))) | refine StOk.gone (by kernel_rfl) ?_))); rfl)
       | ((with_reducible apply G.build); rfl; rfl; rfl) | ((with_reducible apply G.eqs); rfl; rfl; rfl; rfl; (kernel_rfl); (kernel_rfl)) | ((with_reducible apply G.nes); rfl; rfl; rfl; rfl; (kernel_rfl); (kernel_rfl))
       | ((with_reducible apply G.num); rfl; rfl; rfl; rfl; rfl; (first | ((with_reducible apply shl8); omega; omega) | ((with_reducible apply shl16); omega; omega) | ((with_reducible apply or8); omega; omega; omega; omega) | ((with_reducible apply or16); omega; omega; omega; omega) | ((with_reducible apply or24); omega; omega; omega; omega; omega; omega) | ((with_reducible apply i64_in); omega; omega) | ((with_reducible apply wrap8_in); omega; omega) | ((with_reducible apply u64_in); omega; omega) | with_reducible exact shr16 _ | with_reducible exact shr8 _ | with_reducible exact wrap8_mod _ | with_reducible exact shr32u _ | ((with_reducible apply and32u); omega; omega) | with_reducible exact wrap64_mod _))
       | ((with_reducible apply G.min2); rfl; rfl; rfl; (first | (apply if_pos; omega) | (apply if_neg; omega) | rfl)) | ((with_reducible apply G.max2); rfl; rfl; rfl; (first | (apply if_pos; omega) | (apply if_neg; omega) | rfl))
       | ((with_reducible apply G.pure); rfl; rfl; rfl; rfl; rfl)
       | ((with_reducible apply G.known true); rfl; rfl; rfl; (focus (first | with_reducible rfl | ((with_reducible apply decide_eq_true); omega) | ((with_reducible apply decide_eq_false); omega) | ((with_reducible apply beq_iff_eq.2); omega) | ((with_reducible apply beq_eq_false_iff_ne.2); omega) | ((with_reducible apply bne_iff_ne.2); omega) | ((with_reducible apply bne_eq_false_iff_eq.2); omega) | (simp; done)))) | ((with_reducible apply G.known false); rfl; rfl; rfl; (focus (first | with_reducible rfl | ((with_reducible apply decide_eq_true); omega) | ((with_reducible apply decide_eq_false); omega) | ((with_reducible apply beq_iff_eq.2); omega) | ((with_reducible apply beq_eq_false_iff_ne.2); omega) | ((with_reducible apply bne_iff_ne.2); omega) | ((with_reducible apply bne_eq_false_iff_eq.2); omega) | (simp; done))))
       | ((with_reducible apply G.split); rfl; rfl; rfl; all_goals (intro h; first | replace h := beq_t h | replace h := beq_f h | replace h := bne_t h | replace h := bne_f h | replace h := of_decide_eq_true h | replace h := of_decide_eq_false h | skip)))
    | with_reducible apply RG.done | with_reducible apply Q.tn | with_reducible apply Q.tr | with_reducible apply Q.te | with_reducible apply Q.bn | with_reducible apply Q.br | with_reducible apply Q.be | ((with_reducible apply Q.bx); decide) | with_reducible apply Q.tp | with_reducible apply Q.bp
    | with_reducible apply SW.seq | with_reducible apply SW.block | with_reducible apply SW.ret | with_reducible apply SW.skip | with_reducible apply SW.exit
    | ((with_reducible apply SW.cond1); rfl; (focus (first | with_reducible rfl | ((with_reducible apply decide_eq_true); omega) | ((with_reducible apply decide_eq_false); omega) | ((with_reducible apply beq_iff_eq.2); omega) | ((with_reducible apply beq_eq_false_iff_ne.2); omega) | ((with_reducible apply bne_iff_ne.2); omega) | ((with_reducible apply bne_eq_false_iff_eq.2); omega) | (simp; done)))) | ((with_reducible apply SW.cond0); rfl; (focus (first | with_reducible rfl | ((with_reducible apply decide_eq_true); omega) | ((with_reducible apply decide_eq_false); omega) | ((with_reducible apply beq_iff_eq.2); omega) | ((with_reducible apply beq_eq_false_iff_ne.2); omega) | ((with_reducible apply bne_iff_ne.2); omega) | ((with_reducible apply bne_eq_false_iff_eq.2); omega) | (simp; done))))
    | ((with_reducible apply SW.cond); rfl; all_goals (intro h; first | replace h := beq_t h | replace h := beq_f h | replace h := bne_t h | replace h := bne_f h | replace h := of_decide_eq_true h | replace h := of_decide_eq_false h | skip))
    | ((with_reducible apply SW.region0); kernel_rfl; rfl))
  all_goals ((apply Q.rret (.cons (by first | exact .tmp rfl | exact .cell rfl (by repeat (first | exact List.Mem.head _ | apply List.Mem.tail)) rfl) .nil)); ((focus (repeat (first | exact Rems.all | exact Rems.nil | (apply Rems.own; (focus (repeat (first | exact OIn.here | apply OIn.there | apply OIn.over)))) | (apply Rems.cons; (focus (repeat (first | assumption | exact Rem.here | apply Rem.there | apply Rem.oH)))) | apply Rems.skip | apply Rems.oskip)))); (first | rfl | (simp [tupV]; done) | (simp [tupV]; omega)))

theorem TopAdmits_own : ownKnob Try.prog.godebug = none := by kernel_rfl
theorem TopAdmits_laid : laidOutB Try.prog = true := by kernel_rfl
set_option maxRecDepth 100000 in
theorem TopAdmits_lifted (os : Os) (started : os.Started) (H : Type) (enc : TypeId × Value → H) :
    ReturnsInHanded {} Try.checked os 11 .any (Rows.topAdmitsSpec.pre6 enc Try.prog Try.f11 Rows.topAdmitsRow.domain false) (Rows.topAdmitsSpec.post enc Try.prog Try.f11 false true false false) := by
  refine returnsInHanded_of_change (C := Try.checked) TopAdmits_own started (by kernel_rfl) Try.func11
    (ChangeSpec.witness6 (enc := enc) (C := Try.checked) false ⟨#[], #[.int .u8 0], []⟩ 8 (by kernel_rfl) (by kernel_rfl) (by kernel_rfl) (by kernel_rfl)) ?_
  intro W base args ds gs before hval0 hW _ _
  have hval : ∀ (j : Nat) t v, Try.f11.params[j]? = some t → args[j]? = some v → Value.okWide Try.prog W .any base t v := hval0
  have hW' := hW
  obtain ⟨p, q, hA0, hV, rfl, _, _⟩ := hW
  obtain ⟨rfl, rfl⟩ := trodVars_none hV
  have hA : DataW.TrodAll enc Try.prog W 0 (fun _ => true) true Try.f11.params.toList args.toList ds p := hA0
  rw [Try.params11] at hA hval
  obtain ⟨v0, d0, rfl, rfl, h0⟩ := trodAll_one hA

  obtain ⟨x0, rfl, _, _, w0⟩ := open_int Try.underlying5 (hval 0 5 _ rfl rfl) h0
  refine (RC.run (TopAdmits_rc [] x0 (okI_u8 w0)) RoIn.nil).mono fun e W' ⟨he, hb⟩ => ?_
  subst he
  exact ⟨_, rfl, law_post TopAdmits_laid (by decide +kernel) rfl Try.underlying4 rfl (fun ds h => by match ds, h with | [d0], _ => rfl) rfl hW' hb⟩

theorem TopAdmits_holds : Rows.TopAdmitsSaid :=
  OpenClaim.holds_of_wide 11 Try.f11 rfl rfl rfl rfl rfl rfl rfl ⟨rfl, rfl, rfl, rfl, rfl⟩ rfl rfl rfl rfl rfl (by kernel_rfl) Try.func11 (by kernel_rfl)
    (of_decide_eq_true (by kernel_rfl)) (by unfold Func.isWrapper; first | (rw [if_pos (by decide +kernel)]; kernel_rfl) | (rw [if_neg (by decide +kernel)]; exact ⟨rfl, rfl⟩))
    (fun os started H enc _ => TopAdmits_lifted os started H enc)

end Go.Proofs.Ytoeomoaelfnihaa
