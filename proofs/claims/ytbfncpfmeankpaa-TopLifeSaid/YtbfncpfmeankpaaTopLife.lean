/- TopLife: the law holds of every input. -/
import Derived.Test.YtbfncpfmeankpaaKB
namespace Go.Proofs.Ytbfncpfmeankpaa
open Go Go.RowKit Bw Go.ChangeShapes Go.WideShapes Go.ChangeAt
set_option linter.unusedSimpArgs false
set_option linter.unusedVariables false
attribute [local irreducible] OC RC DC XC


theorem u32_in (x : Int) (h0 : 0 ≤ x) (h1 : x < 4294967296) : IntKind.u32.wrap x = x := by
  unfold IntKind.wrap
  simp [IntKind.signed, IntKind.bits]
  omega
def L3 (s g m : Int) : Tb := ⟨[⟨s, g⟩, ⟨0, 0⟩, ⟨0, 0⟩], m⟩
theorem L_find (s g m : Int) (h : s ≠ 0) : findP (L3 s g m).l 0 g = some (0, ⟨s, g⟩) := findP_in (l := (L3 s g m).l) (j := 0) (x := ⟨s, g⟩) rfl h
theorem L_ok1 (s g : Int) (h : s ≠ 0) : (L3 s g 1).ok := ⟨by show (1 : Int) = (List.countP live1 [⟨s, g⟩, ⟨0, 0⟩, ⟨0, 0⟩] : Nat); simp [List.countP_cons, live1, h], Nat.le_of_ble_eq_true rfl⟩
theorem L_ok0 (g : Int) : (L3 0 g 0).ok := ⟨by show (0 : Int) = (List.countP live1 [⟨0, g⟩, ⟨0, 0⟩, ⟨0, 0⟩] : Nat); simp [List.countP_cons, live1], Nat.le_of_ble_eq_true rfl⟩
theorem L_new (H : Hp) : OC Try.prog 12 #[.int .i64 3] H (fun u H' => ∃ b v, u = .pointer (some ⟨b, 0, none⟩) ∧ H' = tbH b (L3 0 ((0 : Nat) : Int) 0) v H ∧ OOk 2 v (L3 0 ((0 : Nat) : Int) 0).l.length (cellsP (L3 0 ((0 : Nat) : Int) 0).l)) := new_k H 2 (by decide) (by decide)
theorem L_alc (g : Int) (h0 : 0 ≤ g) (h1 : g < 1000) (v : Own) (b : Nat) (F : Hp) (hv : OOk 2 v (L3 0 g 0).l.length (cellsP (L3 0 g 0).l)) : OC Try.prog 14 #[.pointer (some ⟨b, 0, none⟩)] (tbH b (L3 0 g 0) v F) (fun u H' => u = .tuple #[.agg #[.int .i64 0, .int .u32 (g + 1)], .int .i64 0] ∧ H' = tbH b (L3 1 (g + 1) 1) v F ∧ OOk 2 v (L3 1 (g + 1) 1).l.length (cellsP (L3 1 (g + 1) 1).l)) := by
  have h := alc_oc (L3 0 g 0) v b F (L_ok0 g) hv
  obtain ⟨_, e1, e2, e3, e4⟩ := alc_in (t := L3 0 g 0) (j := 0) (x := ⟨0, g⟩) rfl rfl
  have e5 : alcS (L3 0 g 0) = L3 1 (g + 1) 1 := by rw [e4, gen1_in h0 (by omega)]; rfl
  rw [e1, e2, e3, e5] at h
  dsimp only at h
  rw [gen1_in h0 (by omega)] at h; exact h
theorem L_rel (g : Int) (v : Own) (b : Nat) (F : Hp) (hv : OOk 2 v (L3 1 g 1).l.length (cellsP (L3 1 g 1).l)) : OC Try.prog 13 #[.pointer (some ⟨b, 0, none⟩), .agg #[.int .i64 0, .int .u32 g]] (tbH b (L3 1 g 1) v F) (fun u H' => u = .int .i64 0 ∧ H' = tbH b (L3 0 g 0) v F ∧ OOk 2 v (L3 0 g 0).l.length (cellsP (L3 0 g 0).l)) := by
  have h := rel_oc (L3 1 g 1) v b F (L_ok1 1 g (by decide)) hv 0 g
  obtain ⟨e1, e2⟩ := rel_in (L_find 1 g 1 (by decide))
  have e3 : relS (L3 1 g 1) 0 g = L3 0 g 0 := e2
  rw [e1, e3] at h; exact h
theorem L_yes (s to g : Int) (h0 : s ≠ 0) (hm : mayP s to = true) (v : Own) (b : Nat) (F : Hp) (hv : OOk 2 v (L3 s g 1).l.length (cellsP (L3 s g 1).l)) : OC Try.prog 23 #[.pointer (some ⟨b, 0, none⟩), .agg #[.int .i64 0, .int .u32 g], .int .i64 to] (tbH b (L3 s g 1) v F) (fun u H' => u = .int .i64 0 ∧ H' = tbH b (L3 to g 1) v F ∧ OOk 2 v (L3 to g 1).l.length (cellsP (L3 to g 1).l)) := by
  have h := mov_oc (L3 s g 1) v b F (L_ok1 s g h0) hv 0 g to
  obtain ⟨e1, e2⟩ := mov_in (L_find s g 1 h0) hm
  have e3 : movS (L3 s g 1) 0 g to = L3 to g 1 := e2
  rw [e1, e3] at h; exact h
theorem L_no (s to g : Int) (h0 : s ≠ 0) (hm : mayP s to = false) (v : Own) (b : Nat) (F : Hp) (hv : OOk 2 v (L3 s g 1).l.length (cellsP (L3 s g 1).l)) : OC Try.prog 23 #[.pointer (some ⟨b, 0, none⟩), .agg #[.int .i64 0, .int .u32 g], .int .i64 to] (tbH b (L3 s g 1) v F) (fun u H' => u = .int .i64 11 ∧ H' = tbH b (L3 s g 1) v F ∧ OOk 2 v (L3 s g 1).l.length (cellsP (L3 s g 1).l)) := by
  have h := mov_oc (L3 s g 1) v b F (L_ok1 s g h0) hv 0 g to
  obtain ⟨e1, e2⟩ := mov_no (L_find s g 1 h0) hm
  rw [e1, e2] at h; exact h
theorem L_len (H : Hp) (b : Nat) (g : Int) (v : Own) (hm : (b, tbR (L3 1 g 1) v) ∈ H) : RC Try.prog 15 #[.pointer (some ⟨b, 0, none⟩)] H (.int .i64 1) := len_rc H b (L3 1 g 1) v hm

set_option maxHeartbeats 4000000 in
set_option maxRecDepth 4000 in
theorem TopLife_rc (H : Hp) (n : Int) (hn : 0 ≤ n ∧ n < 256) : RC Try.prog 11 #[.int .u8 n] H (.bool true) := by
  have hq1 : (1 : Int) ≠ 0 := by decide
  have hq2 : (2 : Int) ≠ 0 := by decide
  have hq4 : (4 : Int) ≠ 0 := by decide
  all_goals (try unfold RC)
  all_goals (try unfold DC)
  all_goals refine OC.of_sw Try.func11 rfl Try.ntmps11 (Nat.le_of_ble_eq_true rfl) fun C => ?_
  repeat' (first
    | ((with_reducible apply SW.bloopI (id := 0) (α := Nat) (Inv := (fun i => (i : Int) ≤ n ∧ OOk 2 v (L3 0 (i : Int) 0).l.length (cellsP (L3 0 (i : Int) 0).l))) (I := (fun (i : Nat) => [(0, .int .u8 n), (3, .pointer (some ⟨b, 0, none⟩)), (4, .int .i64 (i : Nat))])) (J := (fun (i : Nat) => tbH b (L3 0 (i : Int) 0) v H)) (μ := (fun i => (n - i).toNat)) (x0 := 0)); (exact ⟨by omega, hv⟩); (apply Exists.intro; apply And.intro; (focus (repeat (first | exact trivial | refine ⟨rfl, ?_⟩))); (focus (repeat (first | exact Rems.all | exact Rems.nil | (apply Rems.own; (focus (repeat (first | exact OIn.here | apply OIn.there | apply OIn.over)))) | (apply Rems.cons; (focus (repeat (first | assumption | exact Rem.here | apply Rem.there | apply Rem.oH)))) | apply Rems.skip | apply Rems.oskip)))); (rintro i ⟨hi, hv0⟩; (try dsimp only at hi hv0); have hg0 : 0 ≤ (i : Int) := (by omega); have hg1 : (i : Int) < 1000 := (by omega); have hc : ((i + 1 : Nat) : Int) = (i : Int) + 1 := (by omega); rcases Int.lt_or_le (i : Int) n with hlt | hge; (case' inr => (obtain rfl : n = i := (by omega)))))
    | ((refine Exists.intro (i + 1) ?_); (try dsimp only); (rw [hc]); (apply Exists.intro); (refine ⟨?_, ?_, ?_, ?_⟩); (exact ⟨by omega, by assumption⟩); (focus (repeat (first | exact trivial | refine ⟨rfl, ?_⟩))); (focus (repeat (first | exact Rems.all | exact Rems.nil | (apply Rems.own; (focus (repeat (first | exact OIn.here | apply OIn.there | apply OIn.over)))) | (apply Rems.cons; (focus (repeat (first | assumption | exact Rem.here | apply Rem.there | apply Rem.oH)))) | apply Rems.skip | apply Rems.oskip))); omega)
    | ((with_reducible apply G.at); rfl; first
       | ((with_reducible apply G.move); rfl; rfl) | ((with_reducible apply G.assign); rfl; rfl)
       | ((with_reducible apply G.load0); rfl; rfl; (focus (repeat (first | exact List.Mem.head _ | assumption | apply List.Mem.tail | apply mem_oH))); rfl) | ((with_reducible apply G.load1); rfl; rfl; (focus (repeat (first | exact List.Mem.head _ | assumption | apply List.Mem.tail | apply mem_oH))); rfl)
       | ((with_reducible apply G.faddrh (k := 0)); rfl; rfl; rfl) | ((with_reducible apply G.faddrh (k := 1)); rfl; rfl; rfl) | ((with_reducible apply G.faddrh (k := 2)); rfl; rfl; rfl) | ((with_reducible apply G.faddrh (k := 3)); rfl; rfl; rfl) | ((with_reducible apply G.faddrh (k := 4)); rfl; rfl; rfl) | ((with_reducible apply G.faddrh (k := 5)); rfl; rfl; rfl) | ((with_reducible apply G.faddrh (k := 6)); rfl; rfl; rfl) | ((with_reducible apply G.faddrh (k := 7)); rfl; rfl; rfl)
       | ((with_reducible apply G.alloc (e := 28)); rfl; rfl; rfl; intro ci)
       | ((with_reducible apply G.hcall (f := 12)); rfl; rfl; exact Try.call12; (exact L_new _); (rintro _ _ ⟨b, v, rfl, rfl, hv⟩; (focus (repeat (first | exact StOk.nil | (refine StOk.keep ?_ ?_; (focus ((repeat (first | exact List.Mem.head _ | assumption | apply List.Mem.tail | apply mem_oH)); done))) | refine StOk.gone (by kernel_rfl) ?_)))); (rintro _ _ ⟨b, v, rfl, rfl, hv⟩))
       | ((with_reducible apply G.gcall (f := 14)); rfl; rfl; exact Try.call14; ((apply L_alc (h0 := hg0) (h1 := hg1)); rotate_left; assumption); (focus (repeat (first | exact Pick.rest | ((with_reducible apply Pick.own); (focus (repeat (first | exact OIn.here | apply OIn.there | apply OIn.over)))) | ((with_reducible apply Pick.cons); (focus (repeat (first | assumption | exact Rem.here | apply Rem.there | apply Rem.oH))))))); (rintro _ _ ⟨rfl, rfl, hw⟩; (focus (repeat (first | exact StOk.nil | (refine StOk.keep ?_ ?_; (focus ((repeat (first | exact List.Mem.head _ | assumption | apply List.Mem.tail | apply mem_oH)); done))) | refine StOk.gone (by kernel_rfl) ?_)))); (rintro _ _ ⟨rfl, rfl, hw⟩))
       | ((with_reducible apply G.gcall (f := 23)); rfl; rfl; exact Try.call23; ((apply L_no (s := 1) (to := 4) (h0 := hq1) (hm := rfl)); rotate_left; assumption); (focus (repeat (first | exact Pick.rest | ((with_reducible apply Pick.own); (focus (repeat (first | exact OIn.here | apply OIn.there | apply OIn.over)))) | ((with_reducible apply Pick.cons); (focus (repeat (first | assumption | exact Rem.here | apply Rem.there | apply Rem.oH))))))); (rintro _ _ ⟨rfl, rfl, hw⟩; (focus (repeat (first | exact StOk.nil | (refine StOk.keep ?_ ?_; (focus ((repeat (first | exact List.Mem.head _ | assumption | apply List.Mem.tail | apply mem_oH)); done))) | refine StOk.gone (by kernel_rfl) ?_)))); (rintro _ _ ⟨rfl, rfl, hw⟩))
       | ((with_reducible apply G.gcall (f := 23)); rfl; rfl; exact Try.call23; ((apply L_yes (s := 1) (to := 2) (h0 := hq1) (hm := rfl)); rotate_left; assumption); (focus (repeat (first | exact Pick.rest | ((with_reducible apply Pick.own); (focus (repeat (first | exact OIn.here | apply OIn.there | apply OIn.over)))) | ((with_reducible apply Pick.cons); (focus (repeat (first | assumption | exact Rem.here | apply Rem.there | apply Rem.oH))))))); (rintro _ _ ⟨rfl, rfl, hw⟩; (focus (repeat (first | exact StOk.nil | (refine StOk.keep ?_ ?_; (focus ((repeat (first | exact List.Mem.head _ | assumption | apply List.Mem.tail | apply mem_oH)); done))) | refine StOk.gone (by kernel_rfl) ?_)))); (rintro _ _ ⟨rfl, rfl, hw⟩))
       | ((with_reducible apply G.gcall (f := 23)); rfl; rfl; exact Try.call23; ((apply L_yes (s := 2) (to := 4) (h0 := hq2) (hm := rfl)); rotate_left; assumption); (focus (repeat (first | exact Pick.rest | ((with_reducible apply Pick.own); (focus (repeat (first | exact OIn.here | apply OIn.there | apply OIn.over)))) | ((with_reducible apply Pick.cons); (focus (repeat (first | assumption | exact Rem.here | apply Rem.there | apply Rem.oH))))))); (rintro _ _ ⟨rfl, rfl, hw⟩; (focus (repeat (first | exact StOk.nil | (refine StOk.keep ?_ ?_; (focus ((repeat (first | exact List.Mem.head _ | assumption | apply List.Mem.tail | apply mem_oH)); done))) | refine StOk.gone (by kernel_rfl) ?_)))); (rintro _ _ ⟨rfl, rfl, hw⟩))
       | ((with_reducible apply G.gcall (f := 23)); rfl; rfl; exact Try.call23; ((apply L_no (s := 4) (to := 2) (h0 := hq4) (hm := rfl)); rotate_left; assumption); (focus (repeat (first | exact Pick.rest | ((with_reducible apply Pick.own); (focus (repeat (first | exact OIn.here | apply OIn.there | apply OIn.over)))) | ((with_reducible apply Pick.cons); (focus (repeat (first | assumption | exact Rem.here | apply Rem.there | apply Rem.oH))))))); (rintro _ _ ⟨rfl, rfl, hw⟩; (focus (repeat (first | exact StOk.nil | (refine StOk.keep ?_ ?_; (focus ((repeat (first | exact List.Mem.head _ | assumption | apply List.Mem.tail | apply mem_oH)); done))) | refine StOk.gone (by kernel_rfl) ?_)))); (rintro _ _ ⟨rfl, rfl, hw⟩))
       | ((with_reducible apply G.gcall (f := 23)); rfl; rfl; exact Try.call23; ((apply L_yes (s := 4) (to := 1) (h0 := hq4) (hm := rfl)); rotate_left; assumption); (focus (repeat (first | exact Pick.rest | ((with_reducible apply Pick.own); (focus (repeat (first | exact OIn.here | apply OIn.there | apply OIn.over)))) | ((with_reducible apply Pick.cons); (focus (repeat (first | assumption | exact Rem.here | apply Rem.there | apply Rem.oH))))))); (rintro _ _ ⟨rfl, rfl, hw⟩; (focus (repeat (first | exact StOk.nil | (refine StOk.keep ?_ ?_; (focus ((repeat (first | exact List.Mem.head _ | assumption | apply List.Mem.tail | apply mem_oH)); done))) | refine StOk.gone (by kernel_rfl) ?_)))); (rintro _ _ ⟨rfl, rfl, hw⟩))
       | ((with_reducible apply G.gcall (f := 13)); rfl; rfl; exact Try.call13; ((apply L_rel); rotate_left; assumption); (focus (repeat (first | exact Pick.rest | ((with_reducible apply Pick.own); (focus (repeat (first | exact OIn.here | apply OIn.there | apply OIn.over)))) | ((with_reducible apply Pick.cons); (focus (repeat (first | assumption | exact Rem.here | apply Rem.there | apply Rem.oH))))))); (rintro _ _ ⟨rfl, rfl, hw⟩; (focus (repeat (first | exact StOk.nil | (refine StOk.keep ?_ ?_; (focus ((repeat (first | exact List.Mem.head _ | assumption | apply List.Mem.tail | apply mem_oH)); done))) | refine StOk.gone (by kernel_rfl) ?_)))); (rintro _ _ ⟨rfl, rfl, hw⟩))
       | ((with_reducible apply G.rcall (f := 15)); rfl; rfl; exact Try.call15; ((apply L_len); (focus (repeat (first | exact List.Mem.head _ | assumption | apply List.Mem.tail | apply mem_oH)))); (focus (repeat (first | exact StOk.nil | (refine StOk.keep ?_ ?_; (focus ((repeat (first | exact List.Mem.head _ | assumption | apply List.Mem.tail | apply mem_oH)); done))) | refine StOk.gone (by kernel_rfl) ?_))))
       | ((with_reducible apply G.nilck); rfl; rfl) | ((with_reducible apply G.extract); rfl; rfl; rfl) | ((with_reducible apply G.len); rfl; rfl; rfl) | ((with_reducible apply G.pick1); rfl; rfl; rfl) | ((with_reducible apply G.pick0); rfl; rfl; rfl) | ((with_reducible apply G.unw); rfl) | ((with_reducible apply G.unw0); rfl)
       | ((with_reducible apply G.boxa); rfl; rfl; intro b) | ((with_reducible apply G.box); rfl; rfl; intro b) | ((with_reducible apply G.alloc); rfl; rfl; rfl; intro b)
       | ((with_reducible apply G.store); rfl; rfl; rfl; rfl; rfl; rfl; (focus (repeat (first | assumption | exact Rem.here | apply Rem.there | apply Rem.oH))); (exact Nat.le_of_ble_eq_true rfl); (focus (repeat (first | exact StOk.nil | (refine StOk.keep ?_ ?_; (focus ((repeat (first | exact List.Mem.head _ | assumption | apply List.Mem.tail | apply mem_oH)); done))) | refine StOk.gone (by kernel_rfl) ?_))); rfl)
       | ((with_reducible apply G.build); rfl; rfl; rfl) | ((with_reducible apply G.eqs); rfl; rfl; rfl; rfl; (kernel_rfl); (kernel_rfl)) | ((with_reducible apply G.nes); rfl; rfl; rfl; rfl; (kernel_rfl); (kernel_rfl))
       | ((with_reducible apply G.num); rfl; rfl; rfl; rfl; rfl; (first | ((with_reducible apply u32_in); omega; omega) | ((with_reducible apply shl8); omega; omega) | ((with_reducible apply shl16); omega; omega) | ((with_reducible apply or8); omega; omega; omega; omega) | ((with_reducible apply or16); omega; omega; omega; omega) | ((with_reducible apply or24); omega; omega; omega; omega; omega; omega) | ((with_reducible apply i64_in); omega; omega) | ((with_reducible apply wrap8_in); omega; omega) | ((with_reducible apply u64_in); omega; omega) | with_reducible exact shr16 _ | with_reducible exact shr8 _ | with_reducible exact wrap8_mod _ | with_reducible exact shr32u _ | ((with_reducible apply and32u); omega; omega) | with_reducible exact wrap64_mod _))
       | ((with_reducible apply G.min2); rfl; rfl; rfl; (first | (apply if_pos; omega) | (apply if_neg; omega) | rfl)) | ((with_reducible apply G.max2); rfl; rfl; rfl; (first | (apply if_pos; omega) | (apply if_neg; omega) | rfl))
       | ((with_reducible apply G.pure); rfl; rfl; rfl; rfl; rfl)
       | ((with_reducible apply G.known true); rfl; rfl; rfl; (focus (first | with_reducible rfl | ((with_reducible apply decide_eq_true); omega) | ((with_reducible apply decide_eq_false); omega) | ((with_reducible apply beq_iff_eq.2); omega) | ((with_reducible apply beq_eq_false_iff_ne.2); omega) | ((with_reducible apply bne_iff_ne.2); omega) | ((with_reducible apply bne_eq_false_iff_eq.2); omega) | ((with_reducible apply bnot_t); omega) | ((with_reducible apply bnot_f); omega) | ((with_reducible apply dnot_t); omega) | ((with_reducible apply dnot_f); omega) | (simp; done)))) | ((with_reducible apply G.known false); rfl; rfl; rfl; (focus (first | with_reducible rfl | ((with_reducible apply decide_eq_true); omega) | ((with_reducible apply decide_eq_false); omega) | ((with_reducible apply beq_iff_eq.2); omega) | ((with_reducible apply beq_eq_false_iff_ne.2); omega) | ((with_reducible apply bne_iff_ne.2); omega) | ((with_reducible apply bne_eq_false_iff_eq.2); omega) | ((with_reducible apply bnot_t); omega) | ((with_reducible apply bnot_f); omega) | ((with_reducible apply dnot_t); omega) | ((with_reducible apply dnot_f); omega) | (simp; done))))
       | ((with_reducible apply G.split); rfl; rfl; rfl; all_goals (intro h; first | replace h := beq_t h | replace h := beq_f h | replace h := bne_t h | replace h := bne_f h | replace h := of_decide_eq_true h | replace h := of_decide_eq_false h | skip)))
    | with_reducible apply RG.done | with_reducible apply Q.tn | with_reducible apply Q.tr | with_reducible apply Q.te | with_reducible apply Q.bn | with_reducible apply Q.br | with_reducible apply Q.be | ((with_reducible apply Q.bx); decide) | with_reducible apply Q.tp | with_reducible apply Q.bp
    | with_reducible apply SW.seq | with_reducible apply SW.block | with_reducible apply SW.ret | with_reducible apply SW.skip | with_reducible apply SW.exit
    | ((with_reducible apply SW.cond1); rfl; (focus (first | with_reducible rfl | ((with_reducible apply decide_eq_true); omega) | ((with_reducible apply decide_eq_false); omega) | ((with_reducible apply beq_iff_eq.2); omega) | ((with_reducible apply beq_eq_false_iff_ne.2); omega) | ((with_reducible apply bne_iff_ne.2); omega) | ((with_reducible apply bne_eq_false_iff_eq.2); omega) | ((with_reducible apply bnot_t); omega) | ((with_reducible apply bnot_f); omega) | ((with_reducible apply dnot_t); omega) | ((with_reducible apply dnot_f); omega) | (simp; done)))) | ((with_reducible apply SW.cond0); rfl; (focus (first | with_reducible rfl | ((with_reducible apply decide_eq_true); omega) | ((with_reducible apply decide_eq_false); omega) | ((with_reducible apply beq_iff_eq.2); omega) | ((with_reducible apply beq_eq_false_iff_ne.2); omega) | ((with_reducible apply bne_iff_ne.2); omega) | ((with_reducible apply bne_eq_false_iff_eq.2); omega) | ((with_reducible apply bnot_t); omega) | ((with_reducible apply bnot_f); omega) | ((with_reducible apply dnot_t); omega) | ((with_reducible apply dnot_f); omega) | (simp; done))))
    | ((with_reducible apply SW.cond); rfl; all_goals (intro h; first | replace h := beq_t h | replace h := beq_f h | replace h := bne_t h | replace h := bne_f h | replace h := of_decide_eq_true h | replace h := of_decide_eq_false h | skip))
    | ((with_reducible apply SW.region0); kernel_rfl; rfl))
  all_goals ((apply Q.rret (.cons (by first | exact .tmp rfl | exact .cell rfl (by repeat (first | exact List.Mem.head _ | apply List.Mem.tail)) rfl) .nil)); ((focus (repeat (first | exact Rems.all | exact Rems.nil | (apply Rems.own; (focus (repeat (first | exact OIn.here | apply OIn.there | apply OIn.over)))) | (apply Rems.cons; (focus (repeat (first | assumption | exact Rem.here | apply Rem.there | apply Rem.oH)))) | apply Rems.skip | apply Rems.oskip)))); (first | rfl | (simp [tupV]; done) | (simp [tupV]; omega)))

theorem TopLife_own : ownKnob Try.prog.godebug = none := by kernel_rfl
theorem TopLife_laid : laidOutB Try.prog = true := by kernel_rfl
set_option maxRecDepth 100000 in
theorem TopLife_lifted (os : Os) (started : os.Started) (H : Type) (enc : TypeId × Value → H) :
    ReturnsInHanded {} Try.checked os 11 .any (Rows.topLifeSpec.pre6 enc Try.prog Try.f11 Rows.topLifeRow.domain false) (Rows.topLifeSpec.post enc Try.prog Try.f11 false true false false) := by
  refine returnsInHanded_of_change (C := Try.checked) TopLife_own started (by kernel_rfl) Try.func11
    (ChangeSpec.witness6 (enc := enc) (C := Try.checked) false ⟨#[], #[.int .u8 0], []⟩ 8 (by kernel_rfl) (by kernel_rfl) (by kernel_rfl) (by kernel_rfl)) ?_
  intro W base args ds gs before hval0 hW _ _
  have hval : ∀ (j : Nat) t v, Try.f11.params[j]? = some t → args[j]? = some v → Value.okWide Try.prog W .any base t v := hval0
  have hW' := hW
  obtain ⟨p, q, hA0, hV, rfl, _, _⟩ := hW
  obtain ⟨rfl, rfl⟩ := trodVars_none hV
  have hA : DataW.TrodAll enc Try.prog W 0 (fun _ => true) true Try.f11.params.toList args.toList ds p := hA0
  rw [Try.params11] at hA hval
  obtain ⟨v0, d0, rfl, rfl, h0⟩ := trodAll_one hA

  obtain ⟨x0, rfl, _, _, w0⟩ := open_int Try.underlying5 (hval 0 5 _ rfl rfl) h0
  refine (RC.run (TopLife_rc [] x0 (okI_u8 w0)) RoIn.nil).mono fun e W' ⟨he, hb⟩ => ?_
  subst he
  exact ⟨_, rfl, law_post TopLife_laid (by decide +kernel) rfl Try.underlying4 rfl (fun ds h => by match ds, h with | [d0], _ => rfl) rfl hW' hb⟩

theorem TopLife_holds : Rows.TopLifeSaid :=
  OpenClaim.holds_of_wide 11 Try.f11 rfl rfl rfl rfl rfl rfl rfl ⟨rfl, rfl, rfl, rfl, rfl⟩ rfl rfl rfl rfl rfl (by kernel_rfl) Try.func11 (by kernel_rfl)
    (of_decide_eq_true (by kernel_rfl)) (by unfold Func.isWrapper; first | (rw [if_pos (by decide +kernel)]; kernel_rfl) | (rw [if_neg (by decide +kernel)]; exact ⟨rfl, rfl⟩))
    (fun os started H enc _ => TopLife_lifted os started H enc)

end Go.Proofs.Ytbfncpfmeankpaa
