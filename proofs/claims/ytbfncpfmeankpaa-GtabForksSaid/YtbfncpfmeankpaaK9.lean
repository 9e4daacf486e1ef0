/- What must be, deeds on both, plays. -/
import Derived.Test.YtbfncpfmeankpaaK8
namespace Go.Proofs.Ytbfncpfmeankpaa
open Go Go.RowKit Bw
set_option linter.unusedSimpArgs false
set_option linter.unusedVariables false
attribute [local irreducible] OC RC DC XC


structure Deed where
  kind : Int
  p : Int
  g : Int
  s : Int
def deedC (x : Deed) : List Value := [.int .i64 x.kind, .int .i64 x.p, .int .u32 x.g, .int .i64 x.s]
abbrev cellsD (l : List Deed) : List Value := l.flatMap deedC
theorem deedC_len (x : Deed) : (deedC x).length = 4 := rfl
theorem d_ne {l : List Deed} {j : Nat} {x : Deed} (hx : l[j]? = some x) : cellsD l ≠ [] := flat_ne hx (by simp [deedC])
theorem d_all {l : List Deed} {j : Nat} {x : Deed} (hx : l[j]? = some x) : loadL Try.prog 31 (cellsD l) (j * 4) = some (.agg #[.int .i64 x.kind, .int .i64 x.p, .int .u32 x.g, .int .i64 x.s]) := loadL_agg (by kernel_rfl) deedC_len hx
theorem d_kind {l : List Deed} {j : Nat} {x : Deed} (hx : l[j]? = some x) : loadL Try.prog 3 (cellsD l) (j * 4 + 0) = some (.int .i64 x.kind) := loadL_fld (m := 1) (d := 0) (by kernel_rfl) deedC_len hx (by decide) rfl
def doS (t : Tb) (x : Deed) : Tb := if x.kind = 0 then alcS t else if x.kind = 1 then relS t x.p x.g else if x.kind = 2 then movS t x.p x.g x.s else t
structure St (t : Tb) (N : Int) (c : Int) : Prop where
  ok : t.ok
  len : (t.l.length : Int) = N
  gen : ∀ x ∈ t.l, 0 ≤ x.gen ∧ x.gen ≤ c
theorem gen1_in {g : Int} (h0 : 0 ≤ g) (h1 : g < 4294967295) : gen1 g = g + 1 := by
  unfold gen1 IntKind.wrap
  simp [IntKind.signed, IntKind.bits]
  omega
theorem mem_set {l : List Pl} {j : Nat} {y : Pl} {c c' : Int} (h : ∀ x ∈ l, 0 ≤ x.gen ∧ x.gen ≤ c) (hc : c ≤ c') (hy : 0 ≤ y.gen ∧ y.gen ≤ c') : ∀ x ∈ l.set j y, 0 ≤ x.gen ∧ x.gen ≤ c' := fun x hx => by
  rcases List.mem_or_eq_of_mem_set hx with h1 | h1
  · have := h x h1; omega
  · rw [h1]; exact hy
theorem st_mono {t : Tb} {N c c' : Int} (h : St t N c) (hc : c ≤ c') : St t N c' := ⟨h.ok, h.len, fun x hx => by have := h.gen x hx; omega⟩
theorem st_alc {t : Tb} {N c : Int} (h : St t N c) (hc : c < 4294967295) : St (alcS t) N (c + 1) := by
  refine ⟨alc_ok h.ok, ?_, ?_⟩
  · unfold alcS; split
    · show ((t.l.set _ _).length : Int) = N; rw [List.length_set]; exact h.len
    · exact h.len
  · unfold alcS; split
    · rename_i j hj
      obtain ⟨x, hx, h0, _⟩ := free_some hj
      have hg := h.gen x (List.mem_of_getElem? hx)
      refine mem_set h.gen (by omega) ?_
      rw [hx]; show 0 ≤ gen1 x.gen ∧ gen1 x.gen ≤ c + 1
      rw [gen1_in hg.1 (by omega)]; omega
    · exact fun x hx => by have := h.gen x hx; omega
theorem st_rel {t : Tb} {N c p g : Int} (h : St t N c) : St (relS t p g) N c := by
  refine ⟨rel_ok h.ok, ?_, ?_⟩
  · unfold relS; split
    · show ((t.l.set _ _).length : Int) = N; rw [List.length_set]; exact h.len
    · exact h.len
  · unfold relS; split
    · rename_i j x hj
      obtain ⟨_, _, hx, _, _⟩ := findP_some hj
      exact mem_set h.gen (Int.le_refl _) (h.gen x (List.mem_of_getElem? hx))
    · exact h.gen
theorem st_mov {t : Tb} {N c p g s : Int} (h : St t N c) : St (movS t p g s) N c := by
  refine ⟨mov_ok h.ok, ?_, ?_⟩
  · unfold movS; split
    · split
      · show ((t.l.set _ _).length : Int) = N; rw [List.length_set]; exact h.len
      · exact h.len
    · exact h.len
  · unfold movS; split
    · rename_i j x hj
      obtain ⟨_, _, hx, _, _⟩ := findP_some hj
      split
      · exact mem_set h.gen (Int.le_refl _) (h.gen x (List.mem_of_getElem? hx))
      · exact h.gen
    · exact h.gen
theorem st_do {t : Tb} {N c : Int} {x : Deed} (h : St t N c) (hc : c < 4294967295) : St (doS t x) N (c + 1) := by
  unfold doS; split
  · exact st_alc h hc
  · split
    · exact st_mono (st_rel h) (by omega)
    · split
      · exact st_mono (st_mov h) (by omega)
      · exact st_mono h (by omega)
theorem st_new {N : Nat} (h : N ≤ 1024) : St ⟨List.replicate N ⟨0, 0⟩, 0⟩ N 0 := by
  refine ⟨new_ok N h, by simp, fun x hx => ?_⟩
  rw [List.eq_of_mem_replicate hx]; exact ⟨Int.le_refl 0, Int.le_refl 0⟩
theorem new_k (H : Hp) (k : Int) (h0 : 0 ≤ k) (h1 : k < 1024) : OC Try.prog 12 #[.int .i64 (k + 1)] H (fun u H' => ∃ b v, u = .pointer (some ⟨b, 0, none⟩) ∧ H' = tbH b ⟨List.replicate (k + 1).toNat ⟨0, 0⟩, 0⟩ v H ∧ OOk 2 v (List.replicate (k + 1).toNat (⟨0, 0⟩ : Pl)).length (cellsP (List.replicate (k + 1).toNat ⟨0, 0⟩))) := by
  have h := new_oc H (k + 1).toNat (by omega) (by omega)
  rw [show (((k + 1).toNat : Nat) : Int) = k + 1 by omega] at h; exact h
theorem rnew_k (H : Hp) (k : Int) (h0 : 0 ≤ k) (h1 : k < 1024) : OC Try.prog 30 #[.int .i64 (k + 1)] H (fun u H' => ∃ b v1 v2, u = .pointer (some ⟨b, 0, none⟩) ∧ H' = rfH b (List.replicate (k + 1).toNat ⟨0, 0⟩) v1 v2 H ∧ ROk (List.replicate (k + 1).toNat (⟨0, 0⟩ : Pl)) v1 v2) := by
  have h := rnew_oc H (k + 1).toNat (by omega) (by omega)
  rw [show (((k + 1).toNat : Nat) : Int) = k + 1 by omega] at h; exact h
/- What must be whatever is asked. -/
def lv0 : Tb := ⟨List.replicate (1 + 1 : Int).toNat ⟨0, 0⟩, 0⟩
def lv1 : Tb := ⟨[⟨1, 1⟩, ⟨0, 0⟩], 1⟩
def lv2 : Tb := ⟨[⟨0, 1⟩, ⟨0, 0⟩], 0⟩
def lv3 : Tb := ⟨[⟨1, 2⟩, ⟨0, 0⟩], 1⟩
theorem lv0_ok : lv0.ok := new_ok 2 (by decide)
theorem lv1_ok : lv1.ok := ⟨by decide, by decide⟩
theorem lv2_ok : lv2.ok := ⟨by decide, by decide⟩
theorem lv3_ok : lv3.ok := ⟨by decide, by decide⟩
theorem a0 : alcP lv0 = 0 ∧ alcG lv0 = 1 ∧ alcE lv0 = 0 ∧ alcS lv0 = lv1 := ⟨by kernel_rfl, by kernel_rfl, by kernel_rfl, by kernel_rfl⟩
theorem a2 : alcP lv2 = 0 ∧ alcG lv2 = 2 ∧ alcE lv2 = 0 ∧ alcS lv2 = lv3 := ⟨by kernel_rfl, by kernel_rfl, by kernel_rfl, by kernel_rfl⟩
theorem r1 : relE lv1 0 1 = 0 ∧ relS lv1 0 1 = lv2 := ⟨by kernel_rfl, by kernel_rfl⟩
theorem la0 (v : Own) (b : Nat) (F : Hp) (hv : OOk 2 v lv0.l.length (cellsP lv0.l)) : OC Try.prog 14 #[.pointer (some ⟨b, 0, none⟩)] (tbH b lv0 v F) (fun u H' => u = .tuple #[.agg #[.int .i64 0, .int .u32 1], .int .i64 0] ∧ H' = tbH b lv1 v F ∧ OOk 2 v lv1.l.length (cellsP lv1.l)) := by
  have h := alc_oc lv0 v b F lv0_ok hv
  obtain ⟨e1, e2, e3, e4⟩ := a0
  rw [e1, e2, e3, e4] at h; exact h
theorem la2 (v : Own) (b : Nat) (F : Hp) (hv : OOk 2 v lv2.l.length (cellsP lv2.l)) : OC Try.prog 14 #[.pointer (some ⟨b, 0, none⟩)] (tbH b lv2 v F) (fun u H' => u = .tuple #[.agg #[.int .i64 0, .int .u32 2], .int .i64 0] ∧ H' = tbH b lv3 v F ∧ OOk 2 v lv3.l.length (cellsP lv3.l)) := by
  have h := alc_oc lv2 v b F lv2_ok hv
  obtain ⟨e1, e2, e3, e4⟩ := a2
  rw [e1, e2, e3, e4] at h; exact h
theorem lr1 (v : Own) (b : Nat) (F : Hp) (hv : OOk 2 v lv1.l.length (cellsP lv1.l)) : OC Try.prog 13 #[.pointer (some ⟨b, 0, none⟩), .agg #[.int .i64 0, .int .u32 1]] (tbH b lv1 v F) (fun u H' => u = .int .i64 0 ∧ H' = tbH b lv2 v F ∧ OOk 2 v lv2.l.length (cellsP lv2.l)) := by
  have h := rel_oc lv1 v b F lv1_ok hv 0 1
  obtain ⟨e1, e2⟩ := r1
  rw [e1, e2] at h; exact h
theorem ln0 (H : Hp) : OC Try.prog 12 #[.int .i64 2] H (fun u H' => ∃ b v, u = .pointer (some ⟨b, 0, none⟩) ∧ H' = tbH b lv0 v H ∧ OOk 2 v lv0.l.length (cellsP lv0.l)) := new_k H 1 (by decide) (by decide)
theorem ll3 (H : Hp) (b : Nat) (v : Own) (hm : (b, tbR lv3 v) ∈ H) : RC Try.prog 15 #[.pointer (some ⟨b, 0, none⟩)] H (.int .i64 1) := len_rc H b lv3 v hm

set_option maxHeartbeats 4000000 in
set_option maxRecDepth 4000 in
theorem live_dc : DC Try.prog 17 #[] (.bool true) := by
  all_goals (try unfold RC)
  all_goals (try unfold DC)
  all_goals refine OC.of_sw Try.func17 rfl Try.ntmps17 (Nat.le_of_ble_eq_true rfl) fun C => ?_
  repeat' (first
    | ((with_reducible apply G.at); rfl; first
       | ((with_reducible apply G.move); rfl; rfl) | ((with_reducible apply G.assign); rfl; rfl)
       | ((with_reducible apply G.load0); rfl; rfl; (focus (repeat (first | exact List.Mem.head _ | assumption | apply List.Mem.tail | apply mem_oH))); rfl) | ((with_reducible apply G.load1); rfl; rfl; (focus (repeat (first | exact List.Mem.head _ | assumption | apply List.Mem.tail | apply mem_oH))); rfl)
       | ((with_reducible apply G.faddrh (k := 0)); rfl; rfl; rfl) | ((with_reducible apply G.faddrh (k := 1)); rfl; rfl; rfl) | ((with_reducible apply G.faddrh (k := 2)); rfl; rfl; rfl) | ((with_reducible apply G.faddrh (k := 3)); rfl; rfl; rfl) | ((with_reducible apply G.faddrh (k := 4)); rfl; rfl; rfl) | ((with_reducible apply G.faddrh (k := 5)); rfl; rfl; rfl) | ((with_reducible apply G.faddrh (k := 6)); rfl; rfl; rfl) | ((with_reducible apply G.faddrh (k := 7)); rfl; rfl; rfl)
       | ((with_reducible apply G.alloc (e := 28)); rfl; rfl; rfl; intro ci)
       | ((with_reducible apply G.hcall (f := 12)); rfl; rfl; exact Try.call12; (exact ln0 _); (rintro _ _ ⟨b, v, rfl, rfl, hv⟩; (focus (repeat (first | exact StOk.nil | (refine StOk.keep ?_ ?_; (focus ((repeat (first | exact List.Mem.head _ | assumption | apply List.Mem.tail | apply mem_oH)); done))) | refine StOk.gone (by kernel_rfl) ?_)))); (rintro _ _ ⟨b, v, rfl, rfl, hv⟩))
       | ((with_reducible apply G.gcall (f := 14)); rfl; rfl; exact Try.call14; ((apply la0); rotate_left; assumption); (focus (repeat (first | exact Pick.rest | ((with_reducible apply Pick.own); (focus (repeat (first | exact OIn.here | apply OIn.there | apply OIn.over)))) | ((with_reducible apply Pick.cons); (focus (repeat (first | assumption | exact Rem.here | apply Rem.there | apply Rem.oH))))))); (rintro _ _ ⟨rfl, rfl, hv1⟩; (focus (repeat (first | exact StOk.nil | (refine StOk.keep ?_ ?_; (focus ((repeat (first | exact List.Mem.head _ | assumption | apply List.Mem.tail | apply mem_oH)); done))) | refine StOk.gone (by kernel_rfl) ?_)))); (rintro _ _ ⟨rfl, rfl, hv1⟩))
       | ((with_reducible apply G.gcall (f := 14)); rfl; rfl; exact Try.call14; ((apply la2); rotate_left; assumption); (focus (repeat (first | exact Pick.rest | ((with_reducible apply Pick.own); (focus (repeat (first | exact OIn.here | apply OIn.there | apply OIn.over)))) | ((with_reducible apply Pick.cons); (focus (repeat (first | assumption | exact Rem.here | apply Rem.there | apply Rem.oH))))))); (rintro _ _ ⟨rfl, rfl, hv3⟩; (focus (repeat (first | exact StOk.nil | (refine StOk.keep ?_ ?_; (focus ((repeat (first | exact List.Mem.head _ | assumption | apply List.Mem.tail | apply mem_oH)); done))) | refine StOk.gone (by kernel_rfl) ?_)))); (rintro _ _ ⟨rfl, rfl, hv3⟩))
       | ((with_reducible apply G.gcall (f := 13)); rfl; rfl; exact Try.call13; ((apply lr1); rotate_left; assumption); (focus (repeat (first | exact Pick.rest | ((with_reducible apply Pick.own); (focus (repeat (first | exact OIn.here | apply OIn.there | apply OIn.over)))) | ((with_reducible apply Pick.cons); (focus (repeat (first | assumption | exact Rem.here | apply Rem.there | apply Rem.oH))))))); (rintro _ _ ⟨rfl, rfl, hv2⟩; (focus (repeat (first | exact StOk.nil | (refine StOk.keep ?_ ?_; (focus ((repeat (first | exact List.Mem.head _ | assumption | apply List.Mem.tail | apply mem_oH)); done))) | refine StOk.gone (by kernel_rfl) ?_)))); (rintro _ _ ⟨rfl, rfl, hv2⟩))
       | ((with_reducible apply G.rcall (f := 15)); rfl; rfl; exact Try.call15; ((apply ll3); (focus (repeat (first | exact List.Mem.head _ | assumption | apply List.Mem.tail | apply mem_oH)))); (focus (repeat (first | exact StOk.nil | (refine StOk.keep ?_ ?_; (focus ((repeat (first | exact List.Mem.head _ | assumption | apply List.Mem.tail | apply mem_oH)); done))) | refine StOk.gone (by kernel_rfl) ?_))))
       | ((with_reducible apply G.nilck); rfl; rfl) | ((with_reducible apply G.extract); rfl; rfl; rfl) | ((with_reducible apply G.len); rfl; rfl; rfl) | ((with_reducible apply G.pick1); rfl; rfl; rfl) | ((with_reducible apply G.pick0); rfl; rfl; rfl) | ((with_reducible apply G.unw); rfl) | ((with_reducible apply G.unw0); rfl)
       | ((with_reducible apply G.boxa); rfl; rfl; intro b) | ((with_reducible apply G.box); rfl; rfl; intro b) | ((with_reducible apply G.alloc); rfl; rfl; rfl; intro b)
       | ((with_reducible apply G.store); rfl; rfl; rfl; rfl; rfl; rfl; (focus (repeat (first | assumption | exact Rem.here | apply Rem.there | apply Rem.oH))); (exact Nat.le_of_ble_eq_true rfl); (focus (repeat (first | exact StOk.nil | (refine StOk.keep ?_ ?_; (focus ((repeat (first | exact List.Mem.head _ | assumption | apply List.Mem.tail | apply mem_oH)); done))) | refine StOk.gone (by kernel_rfl) ?_))); rfl)
       | ((with_reducible apply G.build); rfl; rfl; rfl) | ((with_reducible apply G.eqs); rfl; rfl; rfl; rfl; (kernel_rfl); (kernel_rfl)) | ((with_reducible apply G.nes); rfl; rfl; rfl; rfl; (kernel_rfl); (kernel_rfl))
       | ((with_reducible apply G.num); rfl; rfl; rfl; rfl; rfl; (first | ((with_reducible apply shl8); omega; omega) | ((with_reducible apply shl16); omega; omega) | ((with_reducible apply or8); omega; omega; omega; omega) | ((with_reducible apply or16); omega; omega; omega; omega) | ((with_reducible apply or24); omega; omega; omega; omega; omega; omega) | ((with_reducible apply i64_in); omega; omega) | ((with_reducible apply wrap8_in); omega; omega) | ((with_reducible apply u64_in); omega; omega) | with_reducible exact shr16 _ | with_reducible exact shr8 _ | with_reducible exact wrap8_mod _ | with_reducible exact shr32u _ | ((with_reducible apply and32u); omega; omega) | with_reducible exact wrap64_mod _))
       | ((with_reducible apply G.min2); rfl; rfl; rfl; (first | (apply if_pos; omega) | (apply if_neg; omega) | rfl)) | ((with_reducible apply G.max2); rfl; rfl; rfl; (first | (apply if_pos; omega) | (apply if_neg; omega) | rfl))
       | ((with_reducible apply G.pure); rfl; rfl; rfl; rfl; rfl)
       | ((with_reducible apply G.known true); rfl; rfl; rfl; (focus (first | with_reducible rfl | rfl))) | ((with_reducible apply G.known false); rfl; rfl; rfl; (focus (first | with_reducible rfl | rfl)))
       | ((with_reducible apply G.split); rfl; rfl; rfl; all_goals (intro h; first | replace h := beq_t h | replace h := beq_f h | replace h := bne_t h | replace h := bne_f h | replace h := of_decide_eq_true h | replace h := of_decide_eq_false h | skip)))
    | with_reducible apply RG.done | with_reducible apply Q.tn | with_reducible apply Q.tr | with_reducible apply Q.te | with_reducible apply Q.bn | with_reducible apply Q.br | with_reducible apply Q.be | ((with_reducible apply Q.bx); decide) | with_reducible apply Q.tp | with_reducible apply Q.bp
    | with_reducible apply SW.seq | with_reducible apply SW.block | with_reducible apply SW.ret | with_reducible apply SW.skip | with_reducible apply SW.exit
    | ((with_reducible apply SW.cond1); rfl; (focus (first | with_reducible rfl | rfl))) | ((with_reducible apply SW.cond0); rfl; (focus (first | with_reducible rfl | rfl)))
    | ((with_reducible apply SW.cond); rfl; all_goals (intro h; first | replace h := beq_t h | replace h := beq_f h | replace h := bne_t h | replace h := bne_f h | replace h := of_decide_eq_true h | replace h := of_decide_eq_false h | skip))
    | ((with_reducible apply SW.region0); kernel_rfl; rfl))
  all_goals ((first | refine Q.dret (.cons (.tmp rfl) .nil) ?_ | refine Q.dret (.cons (.cell rfl (by repeat (first | exact List.Mem.head _ | apply List.Mem.tail)) rfl) .nil) ?_ | refine Q.dret (.cons (.tmp rfl) (.cons (.tmp rfl) .nil)) ?_); rfl)
end Go.Proofs.Ytbfncpfmeankpaa
