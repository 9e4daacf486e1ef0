/- What must be whatever is asked. -/
import Derived.Test.YtoeomoaelfnihaaK3
namespace Go.Proofs.Ytoeomoaelfnihaa
open Go Go.RowKit Bw
set_option linter.unusedSimpArgs false
set_option linter.unusedVariables false
attribute [local irreducible] OC RC DC XC


def lv0 : Svs := ⟨1 * 232792560, 0, []⟩
def lv1 : Svs := ⟨1 * 232792560, 116396280, [newV 1 2]⟩
def lv2 : Svs := ⟨1 * 232792560, 232792560, [newV 1 2, newV 1 2]⟩
def lv3 : Svs := ⟨1 * 232792560, 232792560, [fillS (newV 1 2) 7, newV 1 2]⟩
theorem newV_ok : (newV 1 2).ok := by unfold Srv.ok newV; dsimp only; omega
theorem lv0_ok : lv0.ok := ⟨by unfold lv0; dsimp only; omega, by unfold lv0; dsimp only; omega, by unfold lv0; dsimp only; omega, by decide, by intro x hx; cases hx⟩
theorem lv1_ok : lv1.ok := ⟨by unfold lv1; dsimp only; omega, by unfold lv1; dsimp only; omega, by unfold lv1; dsimp only; omega, by decide, by intro x hx; rw [List.mem_singleton.1 hx]; exact newV_ok⟩
theorem lv2_ok : lv2.ok := ⟨by unfold lv2; dsimp only; omega, by unfold lv2; dsimp only; omega, by unfold lv2; dsimp only; omega, by decide, by intro x hx; rcases List.mem_cons.1 hx with rfl | hx; exact newV_ok; rw [List.mem_singleton.1 hx]; exact newV_ok⟩
theorem lv_ask : ask 1 2 = 116396280 ∧ ask 1 20 = 11639628 := ⟨by decide, by decide⟩
theorem adm0 (v : Own) (b : Nat) (F : Hp) (hv : OOk 5 v lv0.l.length (cellsV lv0.l)) : OC Try.prog 14 #[.pointer (some ⟨b, 0, none⟩), .int .u64 1, .int .u64 2] (svH b lv0 v F) (fun u H' => u = .tuple #[.int .i64 0, .int .i64 0] ∧ ∃ v', H' = svH b lv1 v' F ∧ OOk 5 v' lv1.l.length (cellsV lv1.l)) := by
  have h := admit_oc lv0 v b 1 2 F lv0_ok hv (by decide) (by decide)
  obtain ⟨e1, e2, e3⟩ := adm_none (s := lv0) (b := 1) (p := 2) (by decide) (by decide) (by rw [lv_ask.1]; unfold lv0; dsimp only; omega)
  have e4 : admS lv0 1 2 = lv1 := by rw [e3, lv_ask.1]; rfl
  rw [e1, e2, e4] at h; exact h
theorem adm1 (v : Own) (b : Nat) (F : Hp) (hv : OOk 5 v lv1.l.length (cellsV lv1.l)) : OC Try.prog 14 #[.pointer (some ⟨b, 0, none⟩), .int .u64 1, .int .u64 2] (svH b lv1 v F) (fun u H' => u = .tuple #[.int .i64 1, .int .i64 0] ∧ ∃ v', H' = svH b lv2 v' F ∧ OOk 5 v' lv2.l.length (cellsV lv2.l)) := by
  have h := admit_oc lv1 v b 1 2 F lv1_ok hv (by decide) (by decide)
  obtain ⟨e1, e2, e3⟩ := adm_none (s := lv1) (b := 1) (p := 2) (by decide) (by decide) (by rw [lv_ask.1]; unfold lv1; dsimp only; omega)
  have e4 : admS lv1 1 2 = lv2 := by rw [e3, lv_ask.1]; rfl
  rw [e1, e2, e4] at h; exact h
theorem adm2 (v : Own) (b : Nat) (F : Hp) (hv : OOk 5 v lv2.l.length (cellsV lv2.l)) : OC Try.prog 14 #[.pointer (some ⟨b, 0, none⟩), .int .u64 1, .int .u64 20] (svH b lv2 v F) (fun u H' => u = .tuple #[.int .i64 0, .int .i64 10] ∧ ∃ v', H' = svH b lv2 v' F ∧ OOk 5 v' lv2.l.length (cellsV lv2.l)) := by
  have h := admit_oc lv2 v b 1 20 F lv2_ok hv (by decide) (by decide)
  obtain ⟨e1, e2, e3⟩ := adm_ten (s := lv2) (b := 1) (p := 20) (by decide) (by decide) (by rw [lv_ask.2]; unfold lv2; dsimp only; omega)
  rw [e1, e2, e3] at h; exact h
theorem wak3 (v : Own) (b : Nat) (F : Hp) (hv : OOk 5 v lv2.l.length (cellsV lv2.l)) : OC Try.prog 19 #[.pointer (some ⟨b, 0, none⟩), .int .i64 0, .int .u64 7] (svH b lv2 v F) (fun u H' => u = .int .i64 0 ∧ H' = svH b lv3 v F ∧ OOk 5 v lv3.l.length (cellsV lv3.l)) :=
  wake_oc lv2 v b 0 7 F lv2_ok hv ⟨by decide, by decide⟩
theorem dl3 (H : Hp) (b : Nat) (v : Own) (hm : (b, svR lv3 v) ∈ H) (hv : OOk 5 v lv3.l.length (cellsV lv3.l)) (hs : Has H (oA v) (cellsV lv3.l)) : RC Try.prog 24 #[.pointer (some ⟨b, 0, none⟩), .int .i64 0] H (.int .u64 9) := dl_rc H b lv3 v hm hv hs 0
theorem left3 (H : Hp) (b : Nat) (v : Own) (hm : (b, svR lv3 v) ∈ H) (hv : OOk 5 v lv3.l.length (cellsV lv3.l)) (hs : Has H (oA v) (cellsV lv3.l)) : RC Try.prog 23 #[.pointer (some ⟨b, 0, none⟩), .int .i64 0] H (.int .u64 1) := left_rc H b lv3 v hm hv hs 0
theorem new0 (H : Hp) : OC Try.prog 13 #[.int .i64 1] H (fun u H' => ∃ b, u = .pointer (some ⟨b, 0, none⟩) ∧ H' = svH b lv0 none H ∧ OOk 5 none lv0.l.length (cellsV lv0.l)) := OC.mono (new_oc H 1 (by decide) (by decide)) fun _ _ ⟨b, h1, h2⟩ => ⟨b, h1, h2, OOk.nil⟩

set_option maxHeartbeats 4000000 in
set_option maxRecDepth 4000 in
theorem live_dc : DC Try.prog 18 #[] (.bool true) := by
  all_goals (try unfold RC)
  all_goals (try unfold DC)
  all_goals refine OC.of_sw Try.func18 rfl Try.ntmps18 (Nat.le_of_ble_eq_true rfl) fun C => ?_
  repeat' (first
    | ((with_reducible apply G.at); rfl; first
       | ((with_reducible apply G.move); rfl; rfl) | ((with_reducible apply G.assign); rfl; rfl)
       | ((with_reducible apply G.load0); rfl; rfl; (focus (repeat (first | exact List.Mem.head _ | assumption | apply List.Mem.tail | apply mem_oH))); rfl) | ((with_reducible apply G.load1); rfl; rfl; (focus (repeat (first | exact List.Mem.head _ | assumption | apply List.Mem.tail | apply mem_oH))); rfl)
       | ((with_reducible apply G.faddrh (k := 0)); rfl; rfl; rfl) | ((with_reducible apply G.faddrh (k := 1)); rfl; rfl; rfl) | ((with_reducible apply G.faddrh (k := 2)); rfl; rfl; rfl) | ((with_reducible apply G.faddrh (k := 3)); rfl; rfl; rfl) | ((with_reducible apply G.faddrh (k := 4)); rfl; rfl; rfl) | ((with_reducible apply G.faddrh (k := 5)); rfl; rfl; rfl) | ((with_reducible apply G.faddrh (k := 6)); rfl; rfl; rfl) | ((with_reducible apply G.faddrh (k := 7)); rfl; rfl; rfl)
       | ((with_reducible apply G.hcall (f := 13)); rfl; rfl; exact Try.call13; (exact new0 _); (intro _ _ _; exact StOk.nil); (rintro _ _ ⟨b, rfl, rfl, hv⟩))
       | ((with_reducible apply G.gcall (f := 14)); rfl; rfl; exact Try.call14; ((apply adm0); rotate_left; assumption); (focus (repeat (first | exact Pick.rest | ((with_reducible apply Pick.own); (focus (repeat (first | exact OIn.here | apply OIn.there | apply OIn.over)))) | ((with_reducible apply Pick.cons); (focus (repeat (first | assumption | exact Rem.here | apply Rem.there | apply Rem.oH))))))); (rintro _ _ ⟨rfl, v0, rfl, hv0⟩; exact StOk.nil); (rintro _ _ ⟨rfl, v0, rfl, hv0⟩))
       | ((with_reducible apply G.gcall (f := 14)); rfl; rfl; exact Try.call14; ((apply adm1); rotate_left; assumption); (focus (repeat (first | exact Pick.rest | ((with_reducible apply Pick.own); (focus (repeat (first | exact OIn.here | apply OIn.there | apply OIn.over)))) | ((with_reducible apply Pick.cons); (focus (repeat (first | assumption | exact Rem.here | apply Rem.there | apply Rem.oH))))))); (rintro _ _ ⟨rfl, v1, rfl, hv1⟩; exact StOk.nil); (rintro _ _ ⟨rfl, v1, rfl, hv1⟩))
       | ((with_reducible apply G.gcall (f := 14)); rfl; rfl; exact Try.call14; ((apply adm2); rotate_left; assumption); (focus (repeat (first | exact Pick.rest | ((with_reducible apply Pick.own); (focus (repeat (first | exact OIn.here | apply OIn.there | apply OIn.over)))) | ((with_reducible apply Pick.cons); (focus (repeat (first | assumption | exact Rem.here | apply Rem.there | apply Rem.oH))))))); (rintro _ _ ⟨rfl, v2, rfl, hv2⟩; exact StOk.nil); (rintro _ _ ⟨rfl, v2, rfl, hv2⟩))
       | ((with_reducible apply G.gcall (f := 19)); rfl; rfl; exact Try.call19; ((apply wak3); rotate_left; assumption); (focus (repeat (first | exact Pick.rest | ((with_reducible apply Pick.own); (focus (repeat (first | exact OIn.here | apply OIn.there | apply OIn.over)))) | ((with_reducible apply Pick.cons); (focus (repeat (first | assumption | exact Rem.here | apply Rem.there | apply Rem.oH))))))); (rintro _ _ ⟨rfl, rfl, hv3⟩; exact StOk.nil); (rintro _ _ ⟨rfl, rfl, hv3⟩))
       | ((with_reducible apply G.rcall (f := 24)); rfl; rfl; exact Try.call24; ((apply dl3); (focus (repeat (first | exact List.Mem.head _ | assumption | apply List.Mem.tail | apply mem_oH))); assumption; (focus (repeat (first | assumption | exact Has.row (List.Mem.head _) | (apply Has.mine; assumption) | apply Has.tail | apply Has.oH | exact Has.nil)))); (focus (repeat (first | exact StOk.nil | (refine StOk.keep ?_ ?_; (focus ((repeat (first | exact List.Mem.head _ | assumption | apply List.Mem.tail | apply mem_oH)); done))) | refine StOk.gone (by kernel_rfl) ?_))))
       | ((with_reducible apply G.rcall (f := 23)); rfl; rfl; exact Try.call23; ((apply left3); (focus (repeat (first | exact List.Mem.head _ | assumption | apply List.Mem.tail | apply mem_oH))); assumption; (focus (repeat (first | assumption | exact Has.row (List.Mem.head _) | (apply Has.mine; assumption) | apply Has.tail | apply Has.oH | exact Has.nil)))); (focus (repeat (first | exact StOk.nil | (refine StOk.keep ?_ ?_; (focus ((repeat (first | exact List.Mem.head _ | assumption | apply List.Mem.tail | apply mem_oH)); done))) | refine StOk.gone (by kernel_rfl) ?_))))
       | ((with_reducible apply G.nilck); rfl; rfl) | ((with_reducible apply G.extract); rfl; rfl; rfl) | ((with_reducible apply G.len); rfl; rfl; rfl) | ((with_reducible apply G.pick1); rfl; rfl; rfl) | ((with_reducible apply G.pick0); rfl; rfl; rfl) | ((with_reducible apply G.unw); rfl) | ((with_reducible apply G.unw0); rfl)
       | ((with_reducible apply G.boxa); rfl; rfl; intro b) | ((with_reducible apply G.box); rfl; rfl; intro b) | ((with_reducible apply G.alloc); rfl; rfl; rfl; intro b)
       | ((with_reducible apply G.store); rfl; rfl; rfl; rfl; rfl; rfl; (focus (repeat (first | assumption | exact Rem.here | apply Rem.there | apply Rem.oH))); (exact Nat.le_of_ble_eq_true rfl); (focus (repeat (first | exact StOk.nil | (refine StOk.keep ?_ ?_; (focus ((repeat (first | exact List.Mem.head _ | assumption | apply List.Mem.tail | apply mem_oH)); done))) | refine StOk.gone (by kernel_rfl) ?_))); rfl)
       | ((with_reducible apply G.build); rfl; rfl; rfl) | ((with_reducible apply G.eqs); rfl; rfl; rfl; rfl; (kernel_rfl); (kernel_rfl)) | ((with_reducible apply G.nes); rfl; rfl; rfl; rfl; (kernel_rfl); (kernel_rfl))
       | ((with_reducible apply G.num); rfl; rfl; rfl; rfl; rfl; (first | ((with_reducible apply shl8); omega; omega) | ((with_reducible apply shl16); omega; omega) | ((with_reducible apply or8); omega; omega; omega; omega) | ((with_reducible apply or16); omega; omega; omega; omega) | ((with_reducible apply or24); omega; omega; omega; omega; omega; omega) | ((with_reducible apply i64_in); omega; omega) | ((with_reducible apply wrap8_in); omega; omega) | ((with_reducible apply u64_in); omega; omega) | with_reducible exact shr16 _ | with_reducible exact shr8 _ | with_reducible exact wrap8_mod _ | with_reducible exact shr32u _ | ((with_reducible apply and32u); omega; omega) | with_reducible exact wrap64_mod _))
       | ((with_reducible apply G.min2); rfl; rfl; rfl; (first | (apply if_pos; omega) | (apply if_neg; omega) | rfl)) | ((with_reducible apply G.max2); rfl; rfl; rfl; (first | (apply if_pos; omega) | (apply if_neg; omega) | rfl))
       | ((with_reducible apply G.pure); rfl; rfl; rfl; rfl; rfl)
       | ((with_reducible apply G.known true); rfl; rfl; rfl; (focus (first | with_reducible rfl | rfl))) | ((with_reducible apply G.known false); rfl; rfl; rfl; (focus (first | with_reducible rfl | rfl)))
       | ((with_reducible apply G.split); rfl; rfl; rfl; all_goals (intro h; first | replace h := beq_t h | replace h := beq_f h | replace h := bne_t h | replace h := bne_f h | replace h := of_decide_eq_true h | replace h := of_decide_eq_false h | skip)))
    | with_reducible apply RG.done | with_reducible apply Q.tn | with_reducible apply Q.tr | with_reducible apply Q.te | with_reducible apply Q.bn | with_reducible apply Q.br | with_reducible apply Q.be | ((with_reducible apply Q.bx); decide) | with_reducible apply Q.tp | with_reducible apply Q.bp
    | with_reducible apply SW.seq | with_reducible apply SW.block | with_reducible apply SW.ret | with_reducible apply SW.skip | with_reducible apply SW.exit
    | ((with_reducible apply SW.cond1); rfl; (focus (first | with_reducible rfl | rfl))) | ((with_reducible apply SW.cond0); rfl; (focus (first | with_reducible rfl | rfl)))
    | ((with_reducible apply SW.cond); rfl; all_goals (intro h; first | replace h := beq_t h | replace h := beq_f h | replace h := bne_t h | replace h := bne_f h | replace h := of_decide_eq_true h | replace h := of_decide_eq_false h | skip))
    | ((with_reducible apply SW.region0); kernel_rfl; rfl))
  all_goals ((first | refine Q.dret (.cons (.tmp rfl) .nil) ?_ | refine Q.dret (.cons (.cell rfl (by repeat (first | exact List.Mem.head _ | apply List.Mem.tail)) rfl) .nil) ?_ | refine Q.dret (.cons (.tmp rfl) (.cons (.tmp rfl) .nil)) ?_); rfl)
end Go.Proofs.Ytoeomoaelfnihaa
