/- TopDeadlines: the law holds of every input. -/
import Derived.Test.YtoeomoaelfnihaaK9
namespace Go.Proofs.Ytoeomoaelfnihaa
open Go Go.RowKit Bw Go.ChangeShapes Go.WideShapes Go.ChangeAt
set_option linter.unusedSimpArgs false
set_option linter.unusedVariables false
attribute [local irreducible] OC RC DC XC


abbrev perC : List Value := [.int .u64 1, .int .u64 2, .int .u64 3, .int .u64 4, .int .u64 5, .int .u64 6, .int .u64 10, .int .u64 12, .int .u64 15, .int .u64 20]
theorem per_at (t : Nat) (h : t < 10) : ∃ per : Int, loadL Try.prog 25 perC (t * 1) = some (.int .u64 per) ∧ 1 ≤ per ∧ per ≤ 20 ∧ 232792560 % per = 0 := by
  match t, h with
  | 0, _ => exact ⟨1, by kernel_rfl, by decide, by decide, by decide⟩
  | 1, _ => exact ⟨2, by kernel_rfl, by decide, by decide, by decide⟩
  | 2, _ => exact ⟨3, by kernel_rfl, by decide, by decide, by decide⟩
  | 3, _ => exact ⟨4, by kernel_rfl, by decide, by decide, by decide⟩
  | 4, _ => exact ⟨5, by kernel_rfl, by decide, by decide, by decide⟩
  | 5, _ => exact ⟨6, by kernel_rfl, by decide, by decide, by decide⟩
  | 6, _ => exact ⟨10, by kernel_rfl, by decide, by decide, by decide⟩
  | 7, _ => exact ⟨12, by kernel_rfl, by decide, by decide, by decide⟩
  | 8, _ => exact ⟨15, by kernel_rfl, by decide, by decide, by decide⟩
  | 9, _ => exact ⟨20, by kernel_rfl, by decide, by decide, by decide⟩

theorem okI_u32 {n : Int} (h : okI .u32 n) : 0 ≤ n ∧ n < 4294967296 := by
  simp [okI, Lit.wf, IntKind.min, IntKind.max, IntKind.signed, IntKind.bits] at h; omega
theorem act1 (H : Hp) (b p left dl : Int) (bl : Nat) (v : Own) (hl : 1 ≤ left) (hm : (bl, svR (oneS b p left dl) v) ∈ H) (hv : OOk 5 v (oneS b p left dl).l.length (cellsV (oneS b p left dl).l)) (hs : Has H (oA v) (cellsV (oneS b p left dl).l)) : RC Try.prog 16 #[.pointer (some ⟨bl, 0, none⟩), .int .i64 0] H (.bool true) := by
  have h := one_act H b p left dl bl v hm hv hs
  rw [bne_iff_ne.2 (by omega : left ≠ 0)] at h; exact h
theorem act0 (H : Hp) (b p dl : Int) (bl : Nat) (v : Own) (hm : (bl, svR (oneS b p 0 dl) v) ∈ H) (hv : OOk 5 v (oneS b p 0 dl).l.length (cellsV (oneS b p 0 dl).l)) (hs : Has H (oA v) (cellsV (oneS b p 0 dl).l)) : RC Try.prog 16 #[.pointer (some ⟨bl, 0, none⟩), .int .i64 0] H (.bool false) := one_act H b p 0 dl bl v hm hv hs
theorem above_lt (x y : Int) (h : x < y) : DC Try.prog 30 #[.agg #[.bool true, .int .u64 x, .int .u8 0], .agg #[.bool true, .int .u64 y, .int .u8 0]] (.bool true) := by
  have := above_dd x y; rw [decide_eq_true h] at this; exact this
theorem cha_no (b p L dl : Int) (h : fit1 b p) (hl : 1 < L ∧ L ≤ b) (hd : U64 dl) (v : Own) (bl : Nat) (F : Hp) (hv : OOk 5 v (oneS b p L dl).l.length (cellsV (oneS b p L dl).l)) : OC Try.prog 21 #[.pointer (some ⟨bl, 0, none⟩), .int .i64 0] (svH bl (oneS b p L dl) v F) (fun u H' => u = .tuple #[.bool false, .int .i64 0] ∧ H' = svH bl (oneS b p (L - 1) dl) v F ∧ OOk 5 v (oneS b p (L - 1) dl).l.length (cellsV (oneS b p (L - 1) dl).l)) := by
  have hc := one_cha b p L dl h ⟨by omega, by omega⟩ hd v bl F hv
  rw [beq_eq_false_iff_ne.2 (by omega : L - 1 ≠ 0)] at hc; exact hc
theorem cha_last (b p L dl : Int) (h : fit1 b p) (hl : L = 1) (hd : U64 dl) (v : Own) (bl : Nat) (F : Hp) (hv : OOk 5 v (oneS b p L dl).l.length (cellsV (oneS b p L dl).l)) : OC Try.prog 21 #[.pointer (some ⟨bl, 0, none⟩), .int .i64 0] (svH bl (oneS b p L dl) v F) (fun u H' => u = .tuple #[.bool true, .int .i64 0] ∧ H' = svH bl (oneS b p (L - 1) dl) v F ∧ OOk 5 v (oneS b p (L - 1) dl).l.length (cellsV (oneS b p (L - 1) dl).l)) := by
  have hb1 := h.1
  have hc := one_cha b p L dl h ⟨by omega, by omega⟩ hd v bl F hv
  rw [beq_iff_eq.2 (by omega : L - 1 = 0)] at hc; exact hc

set_option maxHeartbeats 4000000 in
set_option maxRecDepth 4000 in
theorem TopDeadlines_rc (H : Hp) (q p start : Int) (hq : 0 ≤ q ∧ q < 256) (hp : 0 ≤ p ∧ p < 256) (hst : 0 ≤ start ∧ start < 4294967296) : RC Try.prog 12 #[.int .u8 q, .int .u8 p, .int .u32 start] H (.bool true) := by
  obtain ⟨t, ht, ht10⟩ : ∃ t : Nat, p % 10 = (t : Int) ∧ t < 10 := ⟨(p % 10).toNat, by omega, by omega⟩
  obtain ⟨per, hper, p1, p2, p3⟩ := per_at t ht10
  have hpne : perC ≠ [] := by simp
  obtain ⟨r, hr⟩ : ∃ r, q % per = r := ⟨_, rfl⟩
  have hr0 : 0 ≤ r := by rw [← hr]; exact Int.emod_nonneg _ (by omega)
  have hr1 : r < per := by rw [← hr]; exact Int.emod_lt_of_pos _ (by omega)
  obtain ⟨bu, hbu⟩ : ∃ bu, r + 1 = bu := ⟨_, rfl⟩
  have hbw : IntKind.u64.wrap (r + 1) = bu := by rw [hbu]; exact u64_in _ (by omega) (by omega)
  have hfit : fit1 bu per := ⟨by omega, by omega, p2, p3⟩
  have hst2 : U64 start := ⟨by omega, by omega⟩
  have hdl : U64 (start + per) := ⟨by omega, by omega⟩
  have hz0 : (0 : Int) ≤ 0 ∧ 0 ≤ bu := ⟨by omega, by omega⟩
  have hz1 : (0 : Int) ≠ 0 ∨ start < start + per := .inr (by omega)
  have hz2 : 0 ≤ start + per ∧ start + per + per < 18446744073709551616 := ⟨by omega, by omega⟩
  have hz3 : start + per ≤ start + per := Int.le_refl _
  all_goals (try unfold RC)
  all_goals (try unfold DC)
  all_goals refine OC.of_sw Try.func12 rfl Try.ntmps12 (Nat.le_of_ble_eq_true rfl) fun C => ?_
  repeat' (first
    | ((with_reducible apply SW.bloopI (id := 0) (α := (Nat × Int)) (Inv := (fun s => (s.1 : Int) + s.2 = bu ∧ 0 ≤ s.2 ∧ OOk 5 v (oneS bu per s.2 (start + per)).l.length (cellsV (oneS bu per s.2 (start + per)).l))) (I := (fun (s : Nat × Int) => match s with | (n, L) => [(2, .int .u32 start), (9, .int .u64 bu), (10, .pointer (some ⟨b, 0, none⟩)), (11, .int .i64 0), (13, .pointer (some ⟨kb, 0, none⟩)), (14, .int .u64 n)])) (J := (fun (s : Nat × Int) => match s with | (n, L) => (kb, .row 62 [.bool true, .int .u64 (start + per), .int .u8 0] 0) :: svH b (oneS bu per L (start + per)) v H)) (μ := (fun s => s.2.toNat)) (x0 := (0, bu))); (exact ⟨by (try dsimp only); omega, by (try dsimp only); omega, hv2⟩); (apply Exists.intro; apply And.intro; (focus (repeat (first | exact trivial | refine ⟨rfl, ?_⟩))); (focus (repeat (first | exact Rems.all | exact Rems.nil | (apply Rems.own; (focus (repeat (first | exact OIn.here | apply OIn.there | apply OIn.over)))) | (apply Rems.cons; (focus (repeat (first | assumption | exact Rem.here | apply Rem.there | apply Rem.oH)))) | apply Rems.skip | apply Rems.oskip)))); (rintro ⟨n, L⟩ ⟨hn1, hn2, hv⟩; dsimp only at hn1 hn2 hv; rcases Int.lt_or_le (n : Int) bu with hlt | hge; (case' inr => obtain rfl : L = 0 := (by omega)); (case' inl => (have hL1 : 1 ≤ L := (by omega); rcases Int.lt_or_le 1 L with hl2 | hl2)); (case' inl.inl => have hch := fun (F1 : Hp) h0 => cha_no bu per L (start + per) hfit ⟨hl2, by omega⟩ hdl v b F1 h0); (case' inl.inr => have hch := fun (F1 : Hp) h0 => cha_last bu per L (start + per) hfit (by omega) hdl v b F1 h0)))
    | ((refine Exists.intro (n + 1, L - 1) ?_); (apply Exists.intro); (refine ⟨?_, ?_, ?_, ?_⟩); (exact ⟨by (try dsimp only); omega, by (try dsimp only); omega, by assumption⟩); (focus (repeat (first | exact trivial | refine ⟨rfl, ?_⟩))); (focus (repeat (first | exact Rems.all | exact Rems.nil | (apply Rems.own; (focus (repeat (first | exact OIn.here | apply OIn.there | apply OIn.over)))) | (apply Rems.cons; (focus (repeat (first | assumption | exact Rem.here | apply Rem.there | apply Rem.oH)))) | apply Rems.skip | apply Rems.oskip))); ((try dsimp only); omega))
    | ((with_reducible apply G.at); rfl; first
       | ((with_reducible apply G.move); rfl; rfl) | ((with_reducible apply G.assign); rfl; rfl)
       | ((with_reducible apply G.load0); rfl; rfl; (focus (repeat (first | exact List.Mem.head _ | assumption | apply List.Mem.tail | apply mem_oH))); rfl) | ((with_reducible apply G.load1); rfl; rfl; (focus (repeat (first | exact List.Mem.head _ | assumption | apply List.Mem.tail | apply mem_oH))); rfl)
       | ((with_reducible apply G.loadS0); rfl; rfl; (focus (repeat (first | assumption | exact Has.row (List.Mem.head _) | (apply Has.mine; assumption) | apply Has.tail | apply Has.oH | exact Has.nil))); assumption; (first | assumption | rfl)) | ((with_reducible apply G.loadS1); rfl; rfl; (first | assumption | exact Has.row (List.Mem.head _)); (focus (intro p hp; repeat (first | assumption | apply List.Mem.tail | apply mem_oH))); assumption; (first | assumption | rfl); intro _ _ _)
       | ((with_reducible apply G.faddrh (k := 0)); rfl; rfl; rfl) | ((with_reducible apply G.faddrh (k := 1)); rfl; rfl; rfl) | ((with_reducible apply G.faddrh (k := 2)); rfl; rfl; rfl) | ((with_reducible apply G.faddrh (k := 3)); rfl; rfl; rfl) | ((with_reducible apply G.faddrh (k := 4)); rfl; rfl; rfl) | ((with_reducible apply G.faddrh (k := 5)); rfl; rfl; rfl) | ((with_reducible apply G.faddrh (k := 6)); rfl; rfl; rfl) | ((with_reducible apply G.faddrh (k := 7)); rfl; rfl; rfl)
       | ((with_reducible apply G.faddrS (d := 0)); rfl; rfl; rfl; assumption) | ((with_reducible apply G.faddrS (d := 1)); rfl; rfl; rfl; assumption) | ((with_reducible apply G.faddrS (d := 2)); rfl; rfl; rfl; assumption) | ((with_reducible apply G.faddrS (d := 3)); rfl; rfl; rfl; assumption) | ((with_reducible apply G.faddrS (d := 4)); rfl; rfl; rfl; assumption) | ((with_reducible apply G.faddrS (d := 5)); rfl; rfl; rfl; assumption) | ((with_reducible apply G.faddrS (d := 6)); rfl; rfl; rfl; assumption) | ((with_reducible apply G.faddrS (d := 7)); rfl; rfl; rfl; assumption)
       | ((with_reducible apply G.remc); rfl; rfl; rfl; omega; omega; exact ht)
       | ((with_reducible apply G.remc); rfl; rfl; rfl; omega; omega; exact hr)
       | ((with_reducible apply G.bslice); rfl; rfl; intro bq)
       | ((with_reducible apply G.iaddrS (size := 1) (j := t)); rfl; rfl; rfl; rfl; (first | assumption | exact ⟨_, _, rfl⟩); (first | rfl | omega); (first | assumption | omega))
       | ((with_reducible apply G.alloc (e := 62)); rfl; rfl; rfl; intro kb)
       | ((with_reducible apply G.hcall (f := 13)); rfl; rfl; exact Try.call13; (exact one_new _); (intro _ _ _; exact StOk.nil); (rintro _ _ ⟨b, rfl, rfl, hv0⟩))
       | ((with_reducible apply G.gcall (f := 14)); rfl; rfl; exact Try.call14; ((apply one_adm (h := hfit)); rotate_left; assumption); (focus (repeat (first | exact Pick.rest | ((with_reducible apply Pick.own); (focus (repeat (first | exact OIn.here | apply OIn.there | apply OIn.over)))) | ((with_reducible apply Pick.cons); (focus (repeat (first | assumption | exact Rem.here | apply Rem.there | apply Rem.oH))))))); (rintro _ _ ⟨rfl, v, rfl, hv1⟩; exact StOk.nil); (rintro _ _ ⟨rfl, v, rfl, hv1⟩))
       | ((with_reducible apply G.gcall (f := 19)); rfl; rfl; exact Try.call19; ((apply one_wake (h := hfit) (hn := hst)); rotate_left; assumption); (focus (repeat (first | exact Pick.rest | ((with_reducible apply Pick.own); (focus (repeat (first | exact OIn.here | apply OIn.there | apply OIn.over)))) | ((with_reducible apply Pick.cons); (focus (repeat (first | assumption | exact Rem.here | apply Rem.there | apply Rem.oH))))))); (rintro _ _ ⟨rfl, rfl, hv2⟩; exact StOk.nil); (rintro _ _ ⟨rfl, rfl, hv2⟩))
       | ((with_reducible apply G.rcall (f := 24)); rfl; rfl; exact Try.call24; ((apply one_dl (b := bu) (p := per)); (focus ((repeat (first | exact List.Mem.head _ | assumption | apply List.Mem.tail | apply mem_oH)); done)); assumption; (focus (repeat (first | assumption | exact Has.row (List.Mem.head _) | (apply Has.mine; assumption) | apply Has.tail | apply Has.oH | exact Has.nil)))); (focus (repeat (first | exact StOk.nil | (refine StOk.keep ?_ ?_; (focus ((repeat (first | exact List.Mem.head _ | assumption | apply List.Mem.tail | apply mem_oH)); done))) | refine StOk.gone (by kernel_rfl) ?_))))
       | ((with_reducible apply G.rcall (f := 23)); rfl; rfl; exact Try.call23; ((apply one_left (b := bu) (p := per)); (focus ((repeat (first | exact List.Mem.head _ | assumption | apply List.Mem.tail | apply mem_oH)); done)); assumption; (focus (repeat (first | assumption | exact Has.row (List.Mem.head _) | (apply Has.mine; assumption) | apply Has.tail | apply Has.oH | exact Has.nil)))); (focus (repeat (first | exact StOk.nil | (refine StOk.keep ?_ ?_; (focus ((repeat (first | exact List.Mem.head _ | assumption | apply List.Mem.tail | apply mem_oH)); done))) | refine StOk.gone (by kernel_rfl) ?_))))
       | ((with_reducible apply G.rcall (f := 16)); rfl; rfl; exact Try.call16; (first | ((apply act1 (b := bu) (p := per) (hl := hL1)); (focus ((repeat (first | exact List.Mem.head _ | assumption | apply List.Mem.tail | apply mem_oH)); done)); assumption; (focus (repeat (first | assumption | exact Has.row (List.Mem.head _) | (apply Has.mine; assumption) | apply Has.tail | apply Has.oH | exact Has.nil)))) | ((apply act0 (b := bu) (p := per)); (focus ((repeat (first | exact List.Mem.head _ | assumption | apply List.Mem.tail | apply mem_oH)); done)); assumption; (focus (repeat (first | assumption | exact Has.row (List.Mem.head _) | (apply Has.mine; assumption) | apply Has.tail | apply Has.oH | exact Has.nil))))); (focus (repeat (first | exact StOk.nil | (refine StOk.keep ?_ ?_; (focus ((repeat (first | exact List.Mem.head _ | assumption | apply List.Mem.tail | apply mem_oH)); done))) | refine StOk.gone (by kernel_rfl) ?_))))
       | ((with_reducible apply G.dcall (f := 29)); rfl; rfl; exact Try.call29; exact dead_dc _)
       | ((with_reducible apply G.dcall (f := 31)); rfl; rfl; exact Try.call31; exact fixed_dc _)
       | ((with_reducible apply G.dcall (f := 30)); rfl; rfl; exact Try.call30; exact above_df _ _)
       | ((with_reducible apply G.dcall (f := 30)); rfl; rfl; exact Try.call30; exact above_lt _ _ (by omega))
       | ((with_reducible apply G.gcall (f := 21)); rfl; rfl; exact Try.call21; ((apply hch); rotate_left; assumption); (focus (repeat (first | exact Pick.rest | ((with_reducible apply Pick.own); (focus (repeat (first | exact OIn.here | apply OIn.there | apply OIn.over)))) | ((with_reducible apply Pick.cons); (focus (repeat (first | assumption | exact Rem.here | apply Rem.there | apply Rem.oH))))))); (rintro _ _ ⟨rfl, rfl, hv3⟩; exact StOk.nil); (rintro _ _ ⟨rfl, rfl, hv3⟩))
       | ((with_reducible apply G.gcall (f := 20)); rfl; rfl; exact Try.call20; ((apply one_ref0 (h := hfit) (hl := hz0) (hd := hdl) (hn := hst2) (hlt := hz1)); rotate_left; assumption); (focus (repeat (first | exact Pick.rest | ((with_reducible apply Pick.own); (focus (repeat (first | exact OIn.here | apply OIn.there | apply OIn.over)))) | ((with_reducible apply Pick.cons); (focus (repeat (first | assumption | exact Rem.here | apply Rem.there | apply Rem.oH))))))); (rintro _ _ ⟨vo1, rfl, rfl, hvo1⟩; exact StOk.nil); (rintro _ _ ⟨vo1, rfl, rfl, hvo1⟩))
       | ((with_reducible apply G.gcall (f := 20)); rfl; rfl; exact Try.call20; ((apply one_ref1 (h := hfit) (hd := hdl) (hn := hz2) (hlt := hz3)); rotate_left; assumption); (focus (repeat (first | exact Pick.rest | ((with_reducible apply Pick.own); (focus (repeat (first | exact OIn.here | apply OIn.there | apply OIn.over)))) | ((with_reducible apply Pick.cons); (focus (repeat (first | assumption | exact Rem.here | apply Rem.there | apply Rem.oH))))))); (rintro _ _ ⟨vo2, rfl, rfl, hvo2, hv4⟩; exact StOk.nil); (rintro _ _ ⟨vo2, rfl, rfl, hvo2, hv4⟩))
       | ((with_reducible apply G.nilck); rfl; rfl) | ((with_reducible apply G.extract); rfl; rfl; rfl) | ((with_reducible apply G.len); rfl; rfl; rfl) | ((with_reducible apply G.pick1); rfl; rfl; rfl) | ((with_reducible apply G.pick0); rfl; rfl; rfl) | ((with_reducible apply G.unw); rfl) | ((with_reducible apply G.unw0); rfl)
       | ((with_reducible apply G.boxa); rfl; rfl; intro b) | ((with_reducible apply G.box); rfl; rfl; intro b) | ((with_reducible apply G.alloc); rfl; rfl; rfl; intro b)
       | ((with_reducible apply G.store); rfl; rfl; rfl; rfl; rfl; rfl; (focus (repeat (first | assumption | exact Rem.here | apply Rem.there | apply Rem.oH))); (exact Nat.le_of_ble_eq_true rfl); (focus (repeat (first | exact StOk.nil | (refine StOk.keep ?_ ?_; (focus ((repeat (first | exact List.Mem.head _ | assumption | apply List.Mem.tail | apply mem_oH)); done))) | refine StOk.gone (by kernel_rfl) ?_))); rfl)
       | ((with_reducible apply G.build); rfl; rfl; rfl) | ((with_reducible apply G.eqs); rfl; rfl; rfl; rfl; (kernel_rfl); (kernel_rfl)) | ((with_reducible apply G.nes); rfl; rfl; rfl; rfl; (kernel_rfl); (kernel_rfl))
       | ((with_reducible apply G.num); rfl; rfl; rfl; rfl; rfl; (first | exact hbw | ((with_reducible apply shl8); omega; omega) | ((with_reducible apply shl16); omega; omega) | ((with_reducible apply or8); omega; omega; omega; omega) | ((with_reducible apply or16); omega; omega; omega; omega) | ((with_reducible apply or24); omega; omega; omega; omega; omega; omega) | ((with_reducible apply i64_in); omega; omega) | ((with_reducible apply wrap8_in); omega; omega) | ((with_reducible apply u64_in); omega; omega) | with_reducible exact shr16 _ | with_reducible exact shr8 _ | with_reducible exact wrap8_mod _ | with_reducible exact shr32u _ | ((with_reducible apply and32u); omega; omega) | with_reducible exact wrap64_mod _))
       | ((with_reducible apply G.min2); rfl; rfl; rfl; (first | (apply if_pos; omega) | (apply if_neg; omega) | rfl)) | ((with_reducible apply G.max2); rfl; rfl; rfl; (first | (apply if_pos; omega) | (apply if_neg; omega) | rfl))
       | ((with_reducible apply G.pure); rfl; rfl; rfl; rfl; rfl)
       | ((with_reducible apply G.known true); rfl; rfl; rfl; (focus (first | with_reducible rfl | ((with_reducible apply decide_eq_true); omega) | ((with_reducible apply decide_eq_false); omega) | ((with_reducible apply beq_iff_eq.2); omega) | ((with_reducible apply beq_eq_false_iff_ne.2); omega) | ((with_reducible apply bne_iff_ne.2); omega) | ((with_reducible apply bne_eq_false_iff_eq.2); omega) | ((with_reducible apply bnot_t); omega) | ((with_reducible apply bnot_f); omega) | ((with_reducible apply dnot_t); omega) | ((with_reducible apply dnot_f); omega) | (simp; done) | (simp; omega)))) | ((with_reducible apply G.known false); rfl; rfl; rfl; (focus (first | with_reducible rfl | ((with_reducible apply decide_eq_true); omega) | ((with_reducible apply decide_eq_false); omega) | ((with_reducible apply beq_iff_eq.2); omega) | ((with_reducible apply beq_eq_false_iff_ne.2); omega) | ((with_reducible apply bne_iff_ne.2); omega) | ((with_reducible apply bne_eq_false_iff_eq.2); omega) | ((with_reducible apply bnot_t); omega) | ((with_reducible apply bnot_f); omega) | ((with_reducible apply dnot_t); omega) | ((with_reducible apply dnot_f); omega) | (simp; done) | (simp; omega))))
       | ((with_reducible apply G.split); rfl; rfl; rfl; all_goals (intro h; first | replace h := beq_t h | replace h := beq_f h | replace h := bne_t h | replace h := bne_f h | replace h := of_decide_eq_true h | replace h := of_decide_eq_false h | skip)))
    | with_reducible apply RG.done | with_reducible apply Q.tn | with_reducible apply Q.tr | with_reducible apply Q.te | with_reducible apply Q.bn | with_reducible apply Q.br | with_reducible apply Q.be | ((with_reducible apply Q.bx); decide) | with_reducible apply Q.tp | with_reducible apply Q.bp
    | with_reducible apply SW.seq | with_reducible apply SW.block | with_reducible apply SW.ret | with_reducible apply SW.skip | with_reducible apply SW.exit
    | ((with_reducible apply SW.cond1); rfl; (focus (first | with_reducible rfl | ((with_reducible apply decide_eq_true); omega) | ((with_reducible apply decide_eq_false); omega) | ((with_reducible apply beq_iff_eq.2); omega) | ((with_reducible apply beq_eq_false_iff_ne.2); omega) | ((with_reducible apply bne_iff_ne.2); omega) | ((with_reducible apply bne_eq_false_iff_eq.2); omega) | ((with_reducible apply bnot_t); omega) | ((with_reducible apply bnot_f); omega) | ((with_reducible apply dnot_t); omega) | ((with_reducible apply dnot_f); omega) | (simp; done) | (simp; omega)))) | ((with_reducible apply SW.cond0); rfl; (focus (first | with_reducible rfl | ((with_reducible apply decide_eq_true); omega) | ((with_reducible apply decide_eq_false); omega) | ((with_reducible apply beq_iff_eq.2); omega) | ((with_reducible apply beq_eq_false_iff_ne.2); omega) | ((with_reducible apply bne_iff_ne.2); omega) | ((with_reducible apply bne_eq_false_iff_eq.2); omega) | ((with_reducible apply bnot_t); omega) | ((with_reducible apply bnot_f); omega) | ((with_reducible apply dnot_t); omega) | ((with_reducible apply dnot_f); omega) | (simp; done) | (simp; omega))))
    | ((with_reducible apply SW.cond); rfl; all_goals (intro h; first | replace h := beq_t h | replace h := beq_f h | replace h := bne_t h | replace h := bne_f h | replace h := of_decide_eq_true h | replace h := of_decide_eq_false h | skip))
    | ((with_reducible apply SW.region0); kernel_rfl; rfl)
    | ((with_reducible apply SW.region1 (id := 20) [0, 1, 2, 3, 4, 5, 7, 6, 8, 9, 10, 11, 12, 13, 14, 15, 16, 17, 18]); rfl; kernel_rfl))
  all_goals ((apply Q.rret (.cons (by first | exact .tmp rfl | exact .cell rfl (by repeat (first | exact List.Mem.head _ | apply List.Mem.tail)) rfl) .nil)); ((focus (repeat (first | exact Rems.all | exact Rems.nil | (apply Rems.own; (focus (repeat (first | exact OIn.here | apply OIn.there | apply OIn.over)))) | (apply Rems.cons; (focus (repeat (first | assumption | exact Rem.here | apply Rem.there | apply Rem.oH)))) | apply Rems.skip | apply Rems.oskip)))); (first | rfl | (simp [tupV]; done) | (simp [tupV]; omega)))

theorem TopDeadlines_own : ownKnob Try.prog.godebug = none := by kernel_rfl
theorem TopDeadlines_laid : laidOutB Try.prog = true := by kernel_rfl
set_option maxRecDepth 100000 in
theorem TopDeadlines_lifted (os : Os) (started : os.Started) (H : Type) (enc : TypeId × Value → H) :
    ReturnsInHanded {} Try.checked os 12 .any (Rows.topDeadlinesSpec.pre6 enc Try.prog Try.f12 Rows.topDeadlinesRow.domain false) (Rows.topDeadlinesSpec.post enc Try.prog Try.f12 false true false false) := by
  refine returnsInHanded_of_change (C := Try.checked) TopDeadlines_own started (by kernel_rfl) Try.func12
    (ChangeSpec.witness6 (enc := enc) (C := Try.checked) false ⟨#[], #[.int .u8 0, .int .u8 0, .int .u32 0], []⟩ 8 (by kernel_rfl) (by kernel_rfl) (by kernel_rfl) (by kernel_rfl)) ?_
  intro W base args ds gs before hval0 hW _ _
  have hval : ∀ (j : Nat) t v, Try.f12.params[j]? = some t → args[j]? = some v → Value.okWide Try.prog W .any base t v := hval0
  have hW' := hW
  obtain ⟨p, q, hA0, hV, rfl, _, _⟩ := hW
  obtain ⟨rfl, rfl⟩ := trodVars_none hV
  have hA : DataW.TrodAll enc Try.prog W 0 (fun _ => true) true Try.f12.params.toList args.toList ds p := hA0
  rw [Try.params12] at hA hval
  obtain ⟨v0, v1, v2, d0, d1, d2, p0, p1, p2, rfl, rfl, rfl, h0, h1, h2⟩ := trodAll_three hA

  obtain ⟨x0, rfl, _, _, w0⟩ := open_int Try.underlying5 (hval 0 5 _ rfl rfl) h0
  obtain ⟨x1, rfl, _, _, w1⟩ := open_int Try.underlying5 (hval 1 5 _ rfl rfl) h1
  obtain ⟨x2, rfl, _, _, w2⟩ := open_int Try.underlying60 (hval 2 60 _ rfl rfl) h2
  refine (RC.run (TopDeadlines_rc [] x0 x1 x2 (okI_u8 w0) (okI_u8 w1) (okI_u32 w2)) RoIn.nil).mono fun e W' ⟨he, hb⟩ => ?_
  subst he
  exact ⟨_, rfl, law_post TopDeadlines_laid (by decide +kernel) rfl Try.underlying4 rfl (fun ds h => by match ds, h with | [d0, d1, d2], _ => rfl) rfl hW' hb⟩

theorem TopDeadlines_holds : Rows.TopDeadlinesSaid :=
  OpenClaim.holds_of_wide 12 Try.f12 rfl rfl rfl rfl rfl rfl rfl ⟨rfl, rfl, rfl, rfl, rfl⟩ rfl rfl rfl rfl rfl (by kernel_rfl) Try.func12 (by kernel_rfl)
    (of_decide_eq_true (by kernel_rfl)) (by unfold Func.isWrapper; first | (rw [if_pos (by decide +kernel)]; kernel_rfl) | (rw [if_neg (by decide +kernel)]; exact ⟨rfl, rfl⟩))
    (fun os started H enc _ => TopDeadlines_lifted os started H enc)

end Go.Proofs.Ytoeomoaelfnihaa
