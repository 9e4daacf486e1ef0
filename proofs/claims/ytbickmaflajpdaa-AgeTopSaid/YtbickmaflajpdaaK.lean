/- Contracts of the functions of levels and of their references. -/
import Derived.Test.YtbickmaflajpdaaRows
import Derived.Test.YtbickmaflajpdaaSI
namespace Go.Proofs.Ytbickmaflajpdaa
open Go Go.RowKit Bw
set_option linter.unusedSimpArgs false
set_option linter.unusedVariables false
attribute [local irreducible] OC RC DC XC


def U64 (n : Int) : Prop := 0 ≤ n ∧ n < 18446744073709551616
def U8 (n : Int) : Prop := 0 ≤ n ∧ n < 256
@[irreducible] def sub (a b : Int) : Int := if b ≤ a then a - b else 0
theorem sub_le {a b : Int} (h : b ≤ a) : sub a b = a - b := by unfold sub; rw [if_pos h]
theorem sub_gt {a b : Int} (h : ¬ b ≤ a) : sub a b = 0 := by unfold sub; rw [if_neg h]
theorem sub_rng {a b : Int} (ha : U64 a) (hb : U64 b) : U64 (sub a b) := by
  obtain ⟨a1, a2⟩ := ha; obtain ⟨b1, b2⟩ := hb
  by_cases h : b ≤ a
  · rw [sub_le h]; exact ⟨by omega, by omega⟩
  · rw [sub_gt h]; exact ⟨by omega, by omega⟩
/-- How many periods have gone by. -/
@[irreducible] def per (s n p : Int) : Int := sub n s / p
theorem per_rng {s n p : Int} (hs : U64 s) (hn : U64 n) (hp : U64 p) : U64 (sub n s / p) := by
  obtain ⟨h1, h2⟩ := sub_rng hn hs; obtain ⟨p1, p2⟩ := hp
  have := Int.ediv_nonneg h1 p1
  have := Int.ediv_le_self p h1
  exact ⟨by omega, by omega⟩
@[irreducible] def lvl (b s n p : Int) : Int := if p = 0 then b else if 255 - b ≤ sub n s / p then 255 else b + sub n s / p
theorem lvl_0 {b s n p : Int} (h : p = 0) : lvl b s n p = b := by unfold lvl; rw [if_pos h]
theorem lvl_top {b s n p : Int} (h : ¬ p = 0) (h1 : 255 - b ≤ sub n s / p) : lvl b s n p = 255 := by unfold lvl; rw [if_neg h, if_pos h1]
theorem lvl_in {b s n p : Int} (h : ¬ p = 0) (h1 : ¬ 255 - b ≤ sub n s / p) : lvl b s n p = b + sub n s / p := by unfold lvl; rw [if_neg h, if_neg h1]
theorem lvl_rng {b s n p : Int} (hb : U8 b) (hs : U64 s) (hn : U64 n) (hp : U64 p) : U8 (lvl b s n p) ∧ b ≤ lvl b s n p := by
  obtain ⟨h1, h2⟩ := per_rng hs hn hp; obtain ⟨b1, b2⟩ := hb
  by_cases h : p = 0
  · rw [lvl_0 h]; exact ⟨⟨b1, b2⟩, by omega⟩
  · by_cases h3 : 255 - b ≤ sub n s / p
    · rw [lvl_top h h3]; exact ⟨⟨by omega, by omega⟩, by omega⟩
    · rw [lvl_in h h3]; exact ⟨⟨by omega, by omega⟩, by omega⟩


theorem sub_lt {a b : Int} (h : b < a) : sub a b = a - b := sub_le (by omega)
theorem sub_ge {a b : Int} (h : ¬ b < a) : sub a b = 0 := by
  by_cases e : b ≤ a
  · rw [sub_le e]; omega
  · exact sub_gt e

set_option maxHeartbeats 4000000 in
set_option maxRecDepth 4000 in
theorem sub_dc (a b : Int) (ha : U64 a) (hb : U64 b) : DC Try.prog 18 #[.int .u64 a, .int .u64 b] (.int .u64 (sub a b)) := by
  obtain ⟨a1, a2⟩ := ha
  obtain ⟨b1, b2⟩ := hb
  by_cases h : b < a
  all_goals (try unfold RC)
  all_goals (try unfold DC)
  all_goals refine OC.of_sw Try.func18 rfl Try.ntmps18 (Nat.le_of_ble_eq_true rfl) fun C => ?_
  repeat' (first
    | ((with_reducible apply G.at); rfl; first
       | ((with_reducible apply G.move); rfl; rfl) | ((with_reducible apply G.assign); rfl; rfl)
       | ((with_reducible apply G.load0); rfl; rfl; (focus (repeat (first | exact List.Mem.head _ | assumption | apply List.Mem.tail | apply mem_oH))); rfl) | ((with_reducible apply G.load1); rfl; rfl; (focus (repeat (first | exact List.Mem.head _ | assumption | apply List.Mem.tail | apply mem_oH))); rfl)
       | ((with_reducible apply G.faddrh (k := 0)); rfl; rfl; rfl) | ((with_reducible apply G.faddrh (k := 1)); rfl; rfl; rfl) | ((with_reducible apply G.faddrh (k := 2)); rfl; rfl; rfl) | ((with_reducible apply G.faddrh (k := 3)); rfl; rfl; rfl) | ((with_reducible apply G.faddrh (k := 4)); rfl; rfl; rfl) | ((with_reducible apply G.faddrh (k := 5)); rfl; rfl; rfl) | ((with_reducible apply G.faddrh (k := 6)); rfl; rfl; rfl) | ((with_reducible apply G.faddrh (k := 7)); rfl; rfl; rfl)
       | ((with_reducible apply G.nilck); rfl; rfl) | ((with_reducible apply G.extract); rfl; rfl; rfl) | ((with_reducible apply G.len); rfl; rfl; rfl) | ((with_reducible apply G.pick1); rfl; rfl; rfl) | ((with_reducible apply G.pick0); rfl; rfl; rfl) | ((with_reducible apply G.unw); rfl) | ((with_reducible apply G.unw0); rfl)
       | ((with_reducible apply G.boxa); rfl; rfl; intro b) | ((with_reducible apply G.box); rfl; rfl; intro b) | ((with_reducible apply G.alloc); rfl; rfl; rfl; intro b)
       | ((with_reducible apply G.store); rfl; rfl; rfl; rfl; rfl; rfl; (focus (repeat (first | assumption | exact Rem.here | apply Rem.there | apply Rem.oH))); (exact Nat.le_of_ble_eq_true rfl); (focus (repeat (first | exact StOk.nil | (refine StOk.keep ?_ ?_; (focus ((repeat (first | exact List.Mem.head _ | assumption | apply List.Mem.tail | apply mem_oH)); done))) | refine StOk.gone (by kernel_rfl) ?_))); rfl)
       | ((with_reducible apply G.build); rfl; rfl; rfl) | ((with_reducible apply G.eqs); rfl; rfl; rfl; rfl; (kernel_rfl); (kernel_rfl)) | ((with_reducible apply G.nes); rfl; rfl; rfl; rfl; (kernel_rfl); (kernel_rfl))
       | ((with_reducible apply G.num); rfl; rfl; rfl; rfl; rfl; (first | ((with_reducible apply shl8); omega; omega) | ((with_reducible apply shl16); omega; omega) | ((with_reducible apply or8); omega; omega; omega; omega) | ((with_reducible apply or16); omega; omega; omega; omega) | ((with_reducible apply or24); omega; omega; omega; omega; omega; omega) | ((with_reducible apply i64_in); omega; omega) | ((with_reducible apply wrap8_in); omega; omega) | ((with_reducible apply u64_in); omega; omega) | with_reducible exact shr16 _ | with_reducible exact shr8 _ | with_reducible exact wrap8_mod _ | with_reducible exact shr32u _ | ((with_reducible apply and32u); omega; omega) | with_reducible exact wrap64_mod _))
       | ((with_reducible apply G.min2); rfl; rfl; rfl; (first | (apply if_pos; omega) | (apply if_neg; omega) | rfl)) | ((with_reducible apply G.max2); rfl; rfl; rfl; (first | (apply if_pos; omega) | (apply if_neg; omega) | rfl))
       | ((with_reducible apply G.pure); rfl; rfl; rfl; rfl; rfl)
       | ((with_reducible apply G.known true); rfl; rfl; rfl; (focus (first | rfl | (apply decide_eq_true; omega) | (apply decide_eq_false; omega) | (apply beq_iff_eq.2; omega) | (apply beq_eq_false_iff_ne.2; omega) | (apply bne_iff_ne.2; omega) | (apply bne_eq_false_iff_eq.2; omega) | (simp; done)))) | ((with_reducible apply G.known false); rfl; rfl; rfl; (focus (first | rfl | (apply decide_eq_true; omega) | (apply decide_eq_false; omega) | (apply beq_iff_eq.2; omega) | (apply beq_eq_false_iff_ne.2; omega) | (apply bne_iff_ne.2; omega) | (apply bne_eq_false_iff_eq.2; omega) | (simp; done))))
       | ((with_reducible apply G.split); rfl; rfl; rfl; all_goals (intro h; first | replace h := beq_t h | replace h := beq_f h | replace h := bne_t h | replace h := bne_f h | replace h := of_decide_eq_true h | replace h := of_decide_eq_false h | skip)))
    | with_reducible apply RG.done | with_reducible apply Q.tn | with_reducible apply Q.tr | with_reducible apply Q.te | with_reducible apply Q.bn | with_reducible apply Q.br | with_reducible apply Q.be | ((with_reducible apply Q.bx); decide) | with_reducible apply Q.tp | with_reducible apply Q.bp
    | with_reducible apply SW.seq | with_reducible apply SW.block | with_reducible apply SW.ret | with_reducible apply SW.skip | with_reducible apply SW.exit
    | ((with_reducible apply SW.cond1); rfl; (focus (first | rfl | (apply decide_eq_true; omega) | (apply decide_eq_false; omega) | (apply beq_iff_eq.2; omega) | (apply beq_eq_false_iff_ne.2; omega) | (apply bne_iff_ne.2; omega) | (apply bne_eq_false_iff_eq.2; omega) | (simp; done)))) | ((with_reducible apply SW.cond0); rfl; (focus (first | rfl | (apply decide_eq_true; omega) | (apply decide_eq_false; omega) | (apply beq_iff_eq.2; omega) | (apply beq_eq_false_iff_ne.2; omega) | (apply bne_iff_ne.2; omega) | (apply bne_eq_false_iff_eq.2; omega) | (simp; done))))
    | ((with_reducible apply SW.cond); rfl; all_goals (intro h; first | replace h := beq_t h | replace h := beq_f h | replace h := bne_t h | replace h := bne_f h | replace h := of_decide_eq_true h | replace h := of_decide_eq_false h | skip))
    | ((with_reducible apply SW.region0); kernel_rfl; rfl))
  all_goals ((first | refine Q.dret (.cons (.tmp rfl) .nil) ?_ | refine Q.dret (.cons (.cell rfl (by repeat (first | exact List.Mem.head _ | apply List.Mem.tail)) rfl) .nil) ?_ | refine Q.dret (.cons (.tmp rfl) (.cons (.tmp rfl) .nil)) ?_); first | (rw [sub_lt h]; rfl) | (rw [sub_ge h]; simp [tupV]))
set_option maxHeartbeats 4000000 in
set_option maxRecDepth 4000 in
theorem rsub_dc (a b : Int) (ha : U64 a) (hb : U64 b) : DC Try.prog 20 #[.int .u64 a, .int .u64 b] (.int .u64 (sub a b)) := by
  obtain ⟨a1, a2⟩ := ha
  obtain ⟨b1, b2⟩ := hb
  by_cases h : b ≤ a
  all_goals (try unfold RC)
  all_goals (try unfold DC)
  all_goals refine OC.of_sw Try.func20 rfl Try.ntmps20 (Nat.le_of_ble_eq_true rfl) fun C => ?_
  repeat' (first
    | ((with_reducible apply G.at); rfl; first
       | ((with_reducible apply G.move); rfl; rfl) | ((with_reducible apply G.assign); rfl; rfl)
       | ((with_reducible apply G.load0); rfl; rfl; (focus (repeat (first | exact List.Mem.head _ | assumption | apply List.Mem.tail | apply mem_oH))); rfl) | ((with_reducible apply G.load1); rfl; rfl; (focus (repeat (first | exact List.Mem.head _ | assumption | apply List.Mem.tail | apply mem_oH))); rfl)
       | ((with_reducible apply G.faddrh (k := 0)); rfl; rfl; rfl) | ((with_reducible apply G.faddrh (k := 1)); rfl; rfl; rfl) | ((with_reducible apply G.faddrh (k := 2)); rfl; rfl; rfl) | ((with_reducible apply G.faddrh (k := 3)); rfl; rfl; rfl) | ((with_reducible apply G.faddrh (k := 4)); rfl; rfl; rfl) | ((with_reducible apply G.faddrh (k := 5)); rfl; rfl; rfl) | ((with_reducible apply G.faddrh (k := 6)); rfl; rfl; rfl) | ((with_reducible apply G.faddrh (k := 7)); rfl; rfl; rfl)
       | ((with_reducible apply G.nilck); rfl; rfl) | ((with_reducible apply G.extract); rfl; rfl; rfl) | ((with_reducible apply G.len); rfl; rfl; rfl) | ((with_reducible apply G.pick1); rfl; rfl; rfl) | ((with_reducible apply G.pick0); rfl; rfl; rfl) | ((with_reducible apply G.unw); rfl) | ((with_reducible apply G.unw0); rfl)
       | ((with_reducible apply G.boxa); rfl; rfl; intro b) | ((with_reducible apply G.box); rfl; rfl; intro b) | ((with_reducible apply G.alloc); rfl; rfl; rfl; intro b)
       | ((with_reducible apply G.store); rfl; rfl; rfl; rfl; rfl; rfl; (focus (repeat (first | assumption | exact Rem.here | apply Rem.there | apply Rem.oH))); (exact Nat.le_of_ble_eq_true rfl); (focus (repeat (first | exact StOk.nil | (refine StOk.keep ?_ ?_; (focus ((repeat (first | exact List.Mem.head _ | assumption | apply List.Mem.tail | apply mem_oH)); done))) | refine StOk.gone (by kernel_rfl) ?_))); rfl)
       | ((with_reducible apply G.build); rfl; rfl; rfl) | ((with_reducible apply G.eqs); rfl; rfl; rfl; rfl; (kernel_rfl); (kernel_rfl)) | ((with_reducible apply G.nes); rfl; rfl; rfl; rfl; (kernel_rfl); (kernel_rfl))
       | ((with_reducible apply G.num); rfl; rfl; rfl; rfl; rfl; (first | ((with_reducible apply shl8); omega; omega) | ((with_reducible apply shl16); omega; omega) | ((with_reducible apply or8); omega; omega; omega; omega) | ((with_reducible apply or16); omega; omega; omega; omega) | ((with_reducible apply or24); omega; omega; omega; omega; omega; omega) | ((with_reducible apply i64_in); omega; omega) | ((with_reducible apply wrap8_in); omega; omega) | ((with_reducible apply u64_in); omega; omega) | with_reducible exact shr16 _ | with_reducible exact shr8 _ | with_reducible exact wrap8_mod _ | with_reducible exact shr32u _ | ((with_reducible apply and32u); omega; omega) | with_reducible exact wrap64_mod _))
       | ((with_reducible apply G.min2); rfl; rfl; rfl; (first | (apply if_pos; omega) | (apply if_neg; omega) | rfl)) | ((with_reducible apply G.max2); rfl; rfl; rfl; (first | (apply if_pos; omega) | (apply if_neg; omega) | rfl))
       | ((with_reducible apply G.pure); rfl; rfl; rfl; rfl; rfl)
       | ((with_reducible apply G.known true); rfl; rfl; rfl; (focus (first | rfl | (apply decide_eq_true; omega) | (apply decide_eq_false; omega) | (apply beq_iff_eq.2; omega) | (apply beq_eq_false_iff_ne.2; omega) | (apply bne_iff_ne.2; omega) | (apply bne_eq_false_iff_eq.2; omega) | (simp; done)))) | ((with_reducible apply G.known false); rfl; rfl; rfl; (focus (first | rfl | (apply decide_eq_true; omega) | (apply decide_eq_false; omega) | (apply beq_iff_eq.2; omega) | (apply beq_eq_false_iff_ne.2; omega) | (apply bne_iff_ne.2; omega) | (apply bne_eq_false_iff_eq.2; omega) | (simp; done))))
       | ((with_reducible apply G.split); rfl; rfl; rfl; all_goals (intro h; first | replace h := beq_t h | replace h := beq_f h | replace h := bne_t h | replace h := bne_f h | replace h := of_decide_eq_true h | replace h := of_decide_eq_false h | skip)))
    | with_reducible apply RG.done | with_reducible apply Q.tn | with_reducible apply Q.tr | with_reducible apply Q.te | with_reducible apply Q.bn | with_reducible apply Q.br | with_reducible apply Q.be | ((with_reducible apply Q.bx); decide) | with_reducible apply Q.tp | with_reducible apply Q.bp
    | with_reducible apply SW.seq | with_reducible apply SW.block | with_reducible apply SW.ret | with_reducible apply SW.skip | with_reducible apply SW.exit
    | ((with_reducible apply SW.cond1); rfl; (focus (first | rfl | (apply decide_eq_true; omega) | (apply decide_eq_false; omega) | (apply beq_iff_eq.2; omega) | (apply beq_eq_false_iff_ne.2; omega) | (apply bne_iff_ne.2; omega) | (apply bne_eq_false_iff_eq.2; omega) | (simp; done)))) | ((with_reducible apply SW.cond0); rfl; (focus (first | rfl | (apply decide_eq_true; omega) | (apply decide_eq_false; omega) | (apply beq_iff_eq.2; omega) | (apply beq_eq_false_iff_ne.2; omega) | (apply bne_iff_ne.2; omega) | (apply bne_eq_false_iff_eq.2; omega) | (simp; done))))
    | ((with_reducible apply SW.cond); rfl; all_goals (intro h; first | replace h := beq_t h | replace h := beq_f h | replace h := bne_t h | replace h := bne_f h | replace h := of_decide_eq_true h | replace h := of_decide_eq_false h | skip))
    | ((with_reducible apply SW.region0); kernel_rfl; rfl))
  all_goals ((first | refine Q.dret (.cons (.tmp rfl) .nil) ?_ | refine Q.dret (.cons (.cell rfl (by repeat (first | exact List.Mem.head _ | apply List.Mem.tail)) rfl) .nil) ?_ | refine Q.dret (.cons (.tmp rfl) (.cons (.tmp rfl) .nil)) ?_); first | (rw [sub_le h]; rfl) | (rw [sub_gt h]; simp [tupV]))
set_option maxHeartbeats 4000000 in
set_option maxRecDepth 4000 in
theorem level_dc (b s n p : Int) (hb : U8 b) (hs : U64 s) (hn : U64 n) (hp : U64 p) : DC Try.prog 15 #[.int .u8 b, .int .u64 s, .int .u64 n, .int .u64 p] (.int .u8 (lvl b s n p)) := by
  have hsn := sub_rng hn hs
  have hpr := per_rng hs hn hp
  have hb' := hb
  have hs' := hs
  have hn' := hn
  have hp' := hp
  obtain ⟨b1, b2⟩ := hb'
  obtain ⟨s1, s2⟩ := hs'
  obtain ⟨n1, n2⟩ := hn'
  obtain ⟨p1, p2⟩ := hp'
  obtain ⟨q1, q2⟩ := hsn
  obtain ⟨r1, r2⟩ := hpr
  by_cases h0 : p = 0
  case' neg => by_cases h1 : 255 - b ≤ sub n s / p
  all_goals (try unfold RC)
  all_goals (try unfold DC)
  all_goals refine OC.of_sw Try.func15 rfl Try.ntmps15 (Nat.le_of_ble_eq_true rfl) fun C => ?_
  repeat' (first
    | ((with_reducible apply G.at); rfl; first
       | ((with_reducible apply G.move); rfl; rfl) | ((with_reducible apply G.assign); rfl; rfl)
       | ((with_reducible apply G.load0); rfl; rfl; (focus (repeat (first | exact List.Mem.head _ | assumption | apply List.Mem.tail | apply mem_oH))); rfl) | ((with_reducible apply G.load1); rfl; rfl; (focus (repeat (first | exact List.Mem.head _ | assumption | apply List.Mem.tail | apply mem_oH))); rfl)
       | ((with_reducible apply G.faddrh (k := 0)); rfl; rfl; rfl) | ((with_reducible apply G.faddrh (k := 1)); rfl; rfl; rfl) | ((with_reducible apply G.faddrh (k := 2)); rfl; rfl; rfl) | ((with_reducible apply G.faddrh (k := 3)); rfl; rfl; rfl) | ((with_reducible apply G.faddrh (k := 4)); rfl; rfl; rfl) | ((with_reducible apply G.faddrh (k := 5)); rfl; rfl; rfl) | ((with_reducible apply G.faddrh (k := 6)); rfl; rfl; rfl) | ((with_reducible apply G.faddrh (k := 7)); rfl; rfl; rfl)
       | ((with_reducible apply G.quo); rfl; rfl; rfl; omega; omega; (show _ ≤ (18446744073709551615 : Int)); omega)
       | ((with_reducible apply G.dcall (f := 18)); rfl; rfl; exact Try.call18; exact (sub_dc _ _ hn hs))
       | ((with_reducible apply G.nilck); rfl; rfl) | ((with_reducible apply G.extract); rfl; rfl; rfl) | ((with_reducible apply G.len); rfl; rfl; rfl) | ((with_reducible apply G.pick1); rfl; rfl; rfl) | ((with_reducible apply G.pick0); rfl; rfl; rfl) | ((with_reducible apply G.unw); rfl) | ((with_reducible apply G.unw0); rfl)
       | ((with_reducible apply G.boxa); rfl; rfl; intro b) | ((with_reducible apply G.box); rfl; rfl; intro b) | ((with_reducible apply G.alloc); rfl; rfl; rfl; intro b)
       | ((with_reducible apply G.store); rfl; rfl; rfl; rfl; rfl; rfl; (focus (repeat (first | assumption | exact Rem.here | apply Rem.there | apply Rem.oH))); (exact Nat.le_of_ble_eq_true rfl); (focus (repeat (first | exact StOk.nil | (refine StOk.keep ?_ ?_; (focus ((repeat (first | exact List.Mem.head _ | assumption | apply List.Mem.tail | apply mem_oH)); done))) | refine StOk.gone (by kernel_rfl) ?_))); rfl)
       | ((with_reducible apply G.build); rfl; rfl; rfl) | ((with_reducible apply G.eqs); rfl; rfl; rfl; rfl; (kernel_rfl); (kernel_rfl)) | ((with_reducible apply G.nes); rfl; rfl; rfl; rfl; (kernel_rfl); (kernel_rfl))
       | ((with_reducible apply G.num); rfl; rfl; rfl; rfl; rfl; (first | ((with_reducible apply shl8); omega; omega) | ((with_reducible apply shl16); omega; omega) | ((with_reducible apply or8); omega; omega; omega; omega) | ((with_reducible apply or16); omega; omega; omega; omega) | ((with_reducible apply or24); omega; omega; omega; omega; omega; omega) | ((with_reducible apply i64_in); omega; omega) | ((with_reducible apply wrap8_in); omega; omega) | ((with_reducible apply u64_in); omega; omega) | with_reducible exact shr16 _ | with_reducible exact shr8 _ | with_reducible exact wrap8_mod _ | with_reducible exact shr32u _ | ((with_reducible apply and32u); omega; omega) | with_reducible exact wrap64_mod _))
       | ((with_reducible apply G.min2); rfl; rfl; rfl; (first | (apply if_pos; omega) | (apply if_neg; omega) | rfl)) | ((with_reducible apply G.max2); rfl; rfl; rfl; (first | (apply if_pos; omega) | (apply if_neg; omega) | rfl))
       | ((with_reducible apply G.pure); rfl; rfl; rfl; rfl; rfl)
       | ((with_reducible apply G.known true); rfl; rfl; rfl; (focus (first | rfl | (apply decide_eq_true; omega) | (apply decide_eq_false; omega) | (apply beq_iff_eq.2; omega) | (apply beq_eq_false_iff_ne.2; omega) | (apply bne_iff_ne.2; omega) | (apply bne_eq_false_iff_eq.2; omega) | (simp; done)))) | ((with_reducible apply G.known false); rfl; rfl; rfl; (focus (first | rfl | (apply decide_eq_true; omega) | (apply decide_eq_false; omega) | (apply beq_iff_eq.2; omega) | (apply beq_eq_false_iff_ne.2; omega) | (apply bne_iff_ne.2; omega) | (apply bne_eq_false_iff_eq.2; omega) | (simp; done))))
       | ((with_reducible apply G.split); rfl; rfl; rfl; all_goals (intro h; first | replace h := beq_t h | replace h := beq_f h | replace h := bne_t h | replace h := bne_f h | replace h := of_decide_eq_true h | replace h := of_decide_eq_false h | skip)))
    | with_reducible apply RG.done | with_reducible apply Q.tn | with_reducible apply Q.tr | with_reducible apply Q.te | with_reducible apply Q.bn | with_reducible apply Q.br | with_reducible apply Q.be | ((with_reducible apply Q.bx); decide) | with_reducible apply Q.tp | with_reducible apply Q.bp
    | with_reducible apply SW.seq | with_reducible apply SW.block | with_reducible apply SW.ret | with_reducible apply SW.skip | with_reducible apply SW.exit
    | ((with_reducible apply SW.cond1); rfl; (focus (first | rfl | (apply decide_eq_true; omega) | (apply decide_eq_false; omega) | (apply beq_iff_eq.2; omega) | (apply beq_eq_false_iff_ne.2; omega) | (apply bne_iff_ne.2; omega) | (apply bne_eq_false_iff_eq.2; omega) | (simp; done)))) | ((with_reducible apply SW.cond0); rfl; (focus (first | rfl | (apply decide_eq_true; omega) | (apply decide_eq_false; omega) | (apply beq_iff_eq.2; omega) | (apply beq_eq_false_iff_ne.2; omega) | (apply bne_iff_ne.2; omega) | (apply bne_eq_false_iff_eq.2; omega) | (simp; done))))
    | ((with_reducible apply SW.cond); rfl; all_goals (intro h; first | replace h := beq_t h | replace h := beq_f h | replace h := bne_t h | replace h := bne_f h | replace h := of_decide_eq_true h | replace h := of_decide_eq_false h | skip))
    | ((with_reducible apply SW.region0); kernel_rfl; rfl))
  all_goals ((first | refine Q.dret (.cons (.tmp rfl) .nil) ?_ | refine Q.dret (.cons (.cell rfl (by repeat (first | exact List.Mem.head _ | apply List.Mem.tail)) rfl) .nil) ?_ | refine Q.dret (.cons (.tmp rfl) (.cons (.tmp rfl) .nil)) ?_); first | (rw [lvl_0 h0]; rfl) | (rw [lvl_top h0 h1]; first | rfl | (simp only [tupV]; congr 1; omega)) | (rw [lvl_in h0 h1]; first | rfl | (simp only [tupV]; congr 1; omega)))
set_option maxHeartbeats 4000000 in
set_option maxRecDepth 4000 in
theorem rlevel_dc (b s n p : Int) (hb : U8 b) (hs : U64 s) (hn : U64 n) (hp : U64 p) : DC Try.prog 14 #[.int .u8 b, .int .u64 s, .int .u64 n, .int .u64 p] (.int .u8 (lvl b s n p)) := by
  have hsn := sub_rng hn hs
  have hpr := per_rng hs hn hp
  have hb' := hb
  have hs' := hs
  have hn' := hn
  have hp' := hp
  obtain ⟨b1, b2⟩ := hb'
  obtain ⟨s1, s2⟩ := hs'
  obtain ⟨n1, n2⟩ := hn'
  obtain ⟨p1, p2⟩ := hp'
  obtain ⟨q1, q2⟩ := hsn
  obtain ⟨r1, r2⟩ := hpr
  by_cases h0 : p = 0
  case' neg => by_cases h1 : 255 - b ≤ sub n s / p
  all_goals (try unfold RC)
  all_goals (try unfold DC)
  all_goals refine OC.of_sw Try.func14 rfl Try.ntmps14 (Nat.le_of_ble_eq_true rfl) fun C => ?_
  repeat' (first
    | ((with_reducible apply G.at); rfl; first
       | ((with_reducible apply G.move); rfl; rfl) | ((with_reducible apply G.assign); rfl; rfl)
       | ((with_reducible apply G.load0); rfl; rfl; (focus (repeat (first | exact List.Mem.head _ | assumption | apply List.Mem.tail | apply mem_oH))); rfl) | ((with_reducible apply G.load1); rfl; rfl; (focus (repeat (first | exact List.Mem.head _ | assumption | apply List.Mem.tail | apply mem_oH))); rfl)
       | ((with_reducible apply G.faddrh (k := 0)); rfl; rfl; rfl) | ((with_reducible apply G.faddrh (k := 1)); rfl; rfl; rfl) | ((with_reducible apply G.faddrh (k := 2)); rfl; rfl; rfl) | ((with_reducible apply G.faddrh (k := 3)); rfl; rfl; rfl) | ((with_reducible apply G.faddrh (k := 4)); rfl; rfl; rfl) | ((with_reducible apply G.faddrh (k := 5)); rfl; rfl; rfl) | ((with_reducible apply G.faddrh (k := 6)); rfl; rfl; rfl) | ((with_reducible apply G.faddrh (k := 7)); rfl; rfl; rfl)
       | ((with_reducible apply G.quo); rfl; rfl; rfl; omega; omega; (show _ ≤ (18446744073709551615 : Int)); omega)
       | ((with_reducible apply G.dcall (f := 20)); rfl; rfl; exact Try.call20; exact (rsub_dc _ _ hn hs))
       | ((with_reducible apply G.nilck); rfl; rfl) | ((with_reducible apply G.extract); rfl; rfl; rfl) | ((with_reducible apply G.len); rfl; rfl; rfl) | ((with_reducible apply G.pick1); rfl; rfl; rfl) | ((with_reducible apply G.pick0); rfl; rfl; rfl) | ((with_reducible apply G.unw); rfl) | ((with_reducible apply G.unw0); rfl)
       | ((with_reducible apply G.boxa); rfl; rfl; intro b) | ((with_reducible apply G.box); rfl; rfl; intro b) | ((with_reducible apply G.alloc); rfl; rfl; rfl; intro b)
       | ((with_reducible apply G.store); rfl; rfl; rfl; rfl; rfl; rfl; (focus (repeat (first | assumption | exact Rem.here | apply Rem.there | apply Rem.oH))); (exact Nat.le_of_ble_eq_true rfl); (focus (repeat (first | exact StOk.nil | (refine StOk.keep ?_ ?_; (focus ((repeat (first | exact List.Mem.head _ | assumption | apply List.Mem.tail | apply mem_oH)); done))) | refine StOk.gone (by kernel_rfl) ?_))); rfl)
       | ((with_reducible apply G.build); rfl; rfl; rfl) | ((with_reducible apply G.eqs); rfl; rfl; rfl; rfl; (kernel_rfl); (kernel_rfl)) | ((with_reducible apply G.nes); rfl; rfl; rfl; rfl; (kernel_rfl); (kernel_rfl))
       | ((with_reducible apply G.num); rfl; rfl; rfl; rfl; rfl; (first | ((with_reducible apply shl8); omega; omega) | ((with_reducible apply shl16); omega; omega) | ((with_reducible apply or8); omega; omega; omega; omega) | ((with_reducible apply or16); omega; omega; omega; omega) | ((with_reducible apply or24); omega; omega; omega; omega; omega; omega) | ((with_reducible apply i64_in); omega; omega) | ((with_reducible apply wrap8_in); omega; omega) | ((with_reducible apply u64_in); omega; omega) | with_reducible exact shr16 _ | with_reducible exact shr8 _ | with_reducible exact wrap8_mod _ | with_reducible exact shr32u _ | ((with_reducible apply and32u); omega; omega) | with_reducible exact wrap64_mod _))
       | ((with_reducible apply G.min2); rfl; rfl; rfl; (first | (apply if_pos; omega) | (apply if_neg; omega) | rfl)) | ((with_reducible apply G.max2); rfl; rfl; rfl; (first | (apply if_pos; omega) | (apply if_neg; omega) | rfl))
       | ((with_reducible apply G.pure); rfl; rfl; rfl; rfl; rfl)
       | ((with_reducible apply G.known true); rfl; rfl; rfl; (focus (first | rfl | (apply decide_eq_true; omega) | (apply decide_eq_false; omega) | (apply beq_iff_eq.2; omega) | (apply beq_eq_false_iff_ne.2; omega) | (apply bne_iff_ne.2; omega) | (apply bne_eq_false_iff_eq.2; omega) | (simp; done)))) | ((with_reducible apply G.known false); rfl; rfl; rfl; (focus (first | rfl | (apply decide_eq_true; omega) | (apply decide_eq_false; omega) | (apply beq_iff_eq.2; omega) | (apply beq_eq_false_iff_ne.2; omega) | (apply bne_iff_ne.2; omega) | (apply bne_eq_false_iff_eq.2; omega) | (simp; done))))
       | ((with_reducible apply G.split); rfl; rfl; rfl; all_goals (intro h; first | replace h := beq_t h | replace h := beq_f h | replace h := bne_t h | replace h := bne_f h | replace h := of_decide_eq_true h | replace h := of_decide_eq_false h | skip)))
    | with_reducible apply RG.done | with_reducible apply Q.tn | with_reducible apply Q.tr | with_reducible apply Q.te | with_reducible apply Q.bn | with_reducible apply Q.br | with_reducible apply Q.be | ((with_reducible apply Q.bx); decide) | with_reducible apply Q.tp | with_reducible apply Q.bp
    | with_reducible apply SW.seq | with_reducible apply SW.block | with_reducible apply SW.ret | with_reducible apply SW.skip | with_reducible apply SW.exit
    | ((with_reducible apply SW.cond1); rfl; (focus (first | rfl | (apply decide_eq_true; omega) | (apply decide_eq_false; omega) | (apply beq_iff_eq.2; omega) | (apply beq_eq_false_iff_ne.2; omega) | (apply bne_iff_ne.2; omega) | (apply bne_eq_false_iff_eq.2; omega) | (simp; done)))) | ((with_reducible apply SW.cond0); rfl; (focus (first | rfl | (apply decide_eq_true; omega) | (apply decide_eq_false; omega) | (apply beq_iff_eq.2; omega) | (apply beq_eq_false_iff_ne.2; omega) | (apply bne_iff_ne.2; omega) | (apply bne_eq_false_iff_eq.2; omega) | (simp; done))))
    | ((with_reducible apply SW.cond); rfl; all_goals (intro h; first | replace h := beq_t h | replace h := beq_f h | replace h := bne_t h | replace h := bne_f h | replace h := of_decide_eq_true h | replace h := of_decide_eq_false h | skip))
    | ((with_reducible apply SW.region0); kernel_rfl; rfl))
  all_goals ((first | refine Q.dret (.cons (.tmp rfl) .nil) ?_ | refine Q.dret (.cons (.cell rfl (by repeat (first | exact List.Mem.head _ | apply List.Mem.tail)) rfl) .nil) ?_ | refine Q.dret (.cons (.tmp rfl) (.cons (.tmp rfl) .nil)) ?_); first | (rw [lvl_0 h0]; rfl) | (rw [lvl_top h0 h1]; first | rfl | (simp only [tupV]; congr 1; omega)) | (rw [lvl_in h0 h1]; first | rfl | (simp only [tupV]; congr 1; omega)))
set_option maxHeartbeats 4000000 in
set_option maxRecDepth 4000 in
theorem lev_dc (b s n p : Int) (hb : U8 b) (hs : U64 s) (hn : U64 n) (hp : U64 p) : DC Try.prog 13 #[.agg #[.int .u8 b, .int .u64 s, .int .u64 n, .int .u64 p]] (.int .u8 (lvl b s n p)) := by
  all_goals (try unfold RC)
  all_goals (try unfold DC)
  all_goals refine OC.of_sw Try.func13 rfl Try.ntmps13 (Nat.le_of_ble_eq_true rfl) fun C => ?_
  repeat' (first
    | ((with_reducible apply G.at); rfl; first
       | ((with_reducible apply G.move); rfl; rfl) | ((with_reducible apply G.assign); rfl; rfl)
       | ((with_reducible apply G.load0); rfl; rfl; (focus (repeat (first | exact List.Mem.head _ | assumption | apply List.Mem.tail | apply mem_oH))); rfl) | ((with_reducible apply G.load1); rfl; rfl; (focus (repeat (first | exact List.Mem.head _ | assumption | apply List.Mem.tail | apply mem_oH))); rfl)
       | ((with_reducible apply G.faddrh (k := 0)); rfl; rfl; rfl) | ((with_reducible apply G.faddrh (k := 1)); rfl; rfl; rfl) | ((with_reducible apply G.faddrh (k := 2)); rfl; rfl; rfl) | ((with_reducible apply G.faddrh (k := 3)); rfl; rfl; rfl) | ((with_reducible apply G.faddrh (k := 4)); rfl; rfl; rfl) | ((with_reducible apply G.faddrh (k := 5)); rfl; rfl; rfl) | ((with_reducible apply G.faddrh (k := 6)); rfl; rfl; rfl) | ((with_reducible apply G.faddrh (k := 7)); rfl; rfl; rfl)
       | ((with_reducible apply G.dcall (f := 15)); rfl; rfl; exact Try.call15; exact (level_dc _ _ _ _ (by assumption) (by assumption) (by assumption) (by assumption)))
       | ((with_reducible apply G.nilck); rfl; rfl) | ((with_reducible apply G.extract); rfl; rfl; rfl) | ((with_reducible apply G.len); rfl; rfl; rfl) | ((with_reducible apply G.pick1); rfl; rfl; rfl) | ((with_reducible apply G.pick0); rfl; rfl; rfl) | ((with_reducible apply G.unw); rfl) | ((with_reducible apply G.unw0); rfl)
       | ((with_reducible apply G.boxa); rfl; rfl; intro b) | ((with_reducible apply G.box); rfl; rfl; intro b) | ((with_reducible apply G.alloc); rfl; rfl; rfl; intro b)
       | ((with_reducible apply G.store); rfl; rfl; rfl; rfl; rfl; rfl; (focus (repeat (first | assumption | exact Rem.here | apply Rem.there | apply Rem.oH))); (exact Nat.le_of_ble_eq_true rfl); (focus (repeat (first | exact StOk.nil | (refine StOk.keep ?_ ?_; (focus ((repeat (first | exact List.Mem.head _ | assumption | apply List.Mem.tail | apply mem_oH)); done))) | refine StOk.gone (by kernel_rfl) ?_))); rfl)
       | ((with_reducible apply G.build); rfl; rfl; rfl) | ((with_reducible apply G.eqs); rfl; rfl; rfl; rfl; (kernel_rfl); (kernel_rfl)) | ((with_reducible apply G.nes); rfl; rfl; rfl; rfl; (kernel_rfl); (kernel_rfl))
       | ((with_reducible apply G.num); rfl; rfl; rfl; rfl; rfl; (first | ((with_reducible apply shl8); omega; omega) | ((with_reducible apply shl16); omega; omega) | ((with_reducible apply or8); omega; omega; omega; omega) | ((with_reducible apply or16); omega; omega; omega; omega) | ((with_reducible apply or24); omega; omega; omega; omega; omega; omega) | ((with_reducible apply i64_in); omega; omega) | ((with_reducible apply wrap8_in); omega; omega) | ((with_reducible apply u64_in); omega; omega) | with_reducible exact shr16 _ | with_reducible exact shr8 _ | with_reducible exact wrap8_mod _ | with_reducible exact shr32u _ | ((with_reducible apply and32u); omega; omega) | with_reducible exact wrap64_mod _))
       | ((with_reducible apply G.min2); rfl; rfl; rfl; (first | (apply if_pos; omega) | (apply if_neg; omega) | rfl)) | ((with_reducible apply G.max2); rfl; rfl; rfl; (first | (apply if_pos; omega) | (apply if_neg; omega) | rfl))
       | ((with_reducible apply G.pure); rfl; rfl; rfl; rfl; rfl)
       | ((with_reducible apply G.known true); rfl; rfl; rfl; (focus (first | rfl | (apply decide_eq_true; omega) | (apply decide_eq_false; omega) | (apply beq_iff_eq.2; omega) | (apply beq_eq_false_iff_ne.2; omega) | (apply bne_iff_ne.2; omega) | (apply bne_eq_false_iff_eq.2; omega) | (simp; done)))) | ((with_reducible apply G.known false); rfl; rfl; rfl; (focus (first | rfl | (apply decide_eq_true; omega) | (apply decide_eq_false; omega) | (apply beq_iff_eq.2; omega) | (apply beq_eq_false_iff_ne.2; omega) | (apply bne_iff_ne.2; omega) | (apply bne_eq_false_iff_eq.2; omega) | (simp; done))))
       | ((with_reducible apply G.split); rfl; rfl; rfl; all_goals (intro h; first | replace h := beq_t h | replace h := beq_f h | replace h := bne_t h | replace h := bne_f h | replace h := of_decide_eq_true h | replace h := of_decide_eq_false h | skip)))
    | with_reducible apply RG.done | with_reducible apply Q.tn | with_reducible apply Q.tr | with_reducible apply Q.te | with_reducible apply Q.bn | with_reducible apply Q.br | with_reducible apply Q.be | ((with_reducible apply Q.bx); decide) | with_reducible apply Q.tp | with_reducible apply Q.bp
    | with_reducible apply SW.seq | with_reducible apply SW.block | with_reducible apply SW.ret | with_reducible apply SW.skip | with_reducible apply SW.exit
    | ((with_reducible apply SW.cond1); rfl; (focus (first | rfl | (apply decide_eq_true; omega) | (apply decide_eq_false; omega) | (apply beq_iff_eq.2; omega) | (apply beq_eq_false_iff_ne.2; omega) | (apply bne_iff_ne.2; omega) | (apply bne_eq_false_iff_eq.2; omega) | (simp; done)))) | ((with_reducible apply SW.cond0); rfl; (focus (first | rfl | (apply decide_eq_true; omega) | (apply decide_eq_false; omega) | (apply beq_iff_eq.2; omega) | (apply beq_eq_false_iff_ne.2; omega) | (apply bne_iff_ne.2; omega) | (apply bne_eq_false_iff_eq.2; omega) | (simp; done))))
    | ((with_reducible apply SW.cond); rfl; all_goals (intro h; first | replace h := beq_t h | replace h := beq_f h | replace h := bne_t h | replace h := bne_f h | replace h := of_decide_eq_true h | replace h := of_decide_eq_false h | skip))
    | ((with_reducible apply SW.region0); kernel_rfl; rfl))
  all_goals ((first | refine Q.dret (.cons (.tmp rfl) .nil) ?_ | refine Q.dret (.cons (.cell rfl (by repeat (first | exact List.Mem.head _ | apply List.Mem.tail)) rfl) .nil) ?_ | refine Q.dret (.cons (.tmp rfl) (.cons (.tmp rfl) .nil)) ?_); rfl)
set_option maxHeartbeats 4000000 in
set_option maxRecDepth 4000 in
theorem mul64_dc (x y : Int) (hx : U64 x) (hy : U64 y) : DC Try.prog 19 #[.int .u64 x, .int .u64 y] (.tuple #[.int .u64 (x * y / 18446744073709551616), .int .u64 (x * y % 18446744073709551616)]) := by
  obtain ⟨x1, x2⟩ := hx
  obtain ⟨y1, y2⟩ := hy
  have he := hi_eq x1 y1 x2 y2
  obtain ⟨a1, a2⟩ := mul_rng (a := x / 4294967296) (b := y / 4294967296) (by omega) (by omega) (by omega) (by omega)
  obtain ⟨b1, b2⟩ := mul_rng (a := x / 4294967296) (b := y % 4294967296) (by omega) (by omega) (by omega) (by omega)
  obtain ⟨c1, c2⟩ := mul_rng (a := x % 4294967296) (b := y / 4294967296) (by omega) (by omega) (by omega) (by omega)
  obtain ⟨d1, d2⟩ := mul_rng (a := x % 4294967296) (b := y % 4294967296) (by omega) (by omega) (by omega) (by omega)
  all_goals (try unfold RC)
  all_goals (try unfold DC)
  all_goals refine OC.of_sw Try.func19 rfl Try.ntmps19 (Nat.le_of_ble_eq_true rfl) fun C => ?_
  repeat' (first
    | ((with_reducible apply G.at); rfl; first
       | ((with_reducible apply G.move); rfl; rfl) | ((with_reducible apply G.assign); rfl; rfl)
       | ((with_reducible apply G.load0); rfl; rfl; (focus (repeat (first | exact List.Mem.head _ | assumption | apply List.Mem.tail | apply mem_oH))); rfl) | ((with_reducible apply G.load1); rfl; rfl; (focus (repeat (first | exact List.Mem.head _ | assumption | apply List.Mem.tail | apply mem_oH))); rfl)
       | ((with_reducible apply G.faddrh (k := 0)); rfl; rfl; rfl) | ((with_reducible apply G.faddrh (k := 1)); rfl; rfl; rfl) | ((with_reducible apply G.faddrh (k := 2)); rfl; rfl; rfl) | ((with_reducible apply G.faddrh (k := 3)); rfl; rfl; rfl) | ((with_reducible apply G.faddrh (k := 4)); rfl; rfl; rfl) | ((with_reducible apply G.faddrh (k := 5)); rfl; rfl; rfl) | ((with_reducible apply G.faddrh (k := 6)); rfl; rfl; rfl) | ((with_reducible apply G.faddrh (k := 7)); rfl; rfl; rfl)
       | ((with_reducible apply G.nilck); rfl; rfl) | ((with_reducible apply G.extract); rfl; rfl; rfl) | ((with_reducible apply G.len); rfl; rfl; rfl) | ((with_reducible apply G.pick1); rfl; rfl; rfl) | ((with_reducible apply G.pick0); rfl; rfl; rfl) | ((with_reducible apply G.unw); rfl) | ((with_reducible apply G.unw0); rfl)
       | ((with_reducible apply G.boxa); rfl; rfl; intro b) | ((with_reducible apply G.box); rfl; rfl; intro b) | ((with_reducible apply G.alloc); rfl; rfl; rfl; intro b)
       | ((with_reducible apply G.store); rfl; rfl; rfl; rfl; rfl; rfl; (focus (repeat (first | assumption | exact Rem.here | apply Rem.there | apply Rem.oH))); (exact Nat.le_of_ble_eq_true rfl); (focus (repeat (first | exact StOk.nil | (refine StOk.keep ?_ ?_; (focus ((repeat (first | exact List.Mem.head _ | assumption | apply List.Mem.tail | apply mem_oH)); done))) | refine StOk.gone (by kernel_rfl) ?_))); rfl)
       | ((with_reducible apply G.build); rfl; rfl; rfl) | ((with_reducible apply G.eqs); rfl; rfl; rfl; rfl; (kernel_rfl); (kernel_rfl)) | ((with_reducible apply G.nes); rfl; rfl; rfl; rfl; (kernel_rfl); (kernel_rfl))
       | ((with_reducible apply G.num); rfl; rfl; rfl; rfl; rfl; (first | with_reducible exact wrap64_mod (x * y) | ((with_reducible apply shl8); omega; omega) | ((with_reducible apply shl16); omega; omega) | ((with_reducible apply or8); omega; omega; omega; omega) | ((with_reducible apply or16); omega; omega; omega; omega) | ((with_reducible apply or24); omega; omega; omega; omega; omega; omega) | ((with_reducible apply i64_in); omega; omega) | ((with_reducible apply wrap8_in); omega; omega) | ((with_reducible apply u64_in); omega; omega) | with_reducible exact shr16 _ | with_reducible exact shr8 _ | with_reducible exact wrap8_mod _ | with_reducible exact shr32u _ | ((with_reducible apply and32u); omega; omega) | with_reducible exact wrap64_mod _))
       | ((with_reducible apply G.min2); rfl; rfl; rfl; (first | (apply if_pos; omega) | (apply if_neg; omega) | rfl)) | ((with_reducible apply G.max2); rfl; rfl; rfl; (first | (apply if_pos; omega) | (apply if_neg; omega) | rfl))
       | ((with_reducible apply G.pure); rfl; rfl; rfl; rfl; rfl)
       | ((with_reducible apply G.known true); rfl; rfl; rfl; (focus (first | rfl | (apply decide_eq_true; omega) | (apply decide_eq_false; omega) | (apply beq_iff_eq.2; omega) | (apply beq_eq_false_iff_ne.2; omega) | (apply bne_iff_ne.2; omega) | (apply bne_eq_false_iff_eq.2; omega) | (simp; done)))) | ((with_reducible apply G.known false); rfl; rfl; rfl; (focus (first | rfl | (apply decide_eq_true; omega) | (apply decide_eq_false; omega) | (apply beq_iff_eq.2; omega) | (apply beq_eq_false_iff_ne.2; omega) | (apply bne_iff_ne.2; omega) | (apply bne_eq_false_iff_eq.2; omega) | (simp; done))))
       | ((with_reducible apply G.split); rfl; rfl; rfl; all_goals (intro h; first | replace h := beq_t h | replace h := beq_f h | replace h := bne_t h | replace h := bne_f h | replace h := of_decide_eq_true h | replace h := of_decide_eq_false h | skip)))
    | with_reducible apply RG.done | with_reducible apply Q.tn | with_reducible apply Q.tr | with_reducible apply Q.te | with_reducible apply Q.bn | with_reducible apply Q.br | with_reducible apply Q.be | ((with_reducible apply Q.bx); decide) | with_reducible apply Q.tp | with_reducible apply Q.bp
    | with_reducible apply SW.seq | with_reducible apply SW.block | with_reducible apply SW.ret | with_reducible apply SW.skip | with_reducible apply SW.exit
    | ((with_reducible apply SW.cond1); rfl; (focus (first | rfl | (apply decide_eq_true; omega) | (apply decide_eq_false; omega) | (apply beq_iff_eq.2; omega) | (apply beq_eq_false_iff_ne.2; omega) | (apply bne_iff_ne.2; omega) | (apply bne_eq_false_iff_eq.2; omega) | (simp; done)))) | ((with_reducible apply SW.cond0); rfl; (focus (first | rfl | (apply decide_eq_true; omega) | (apply decide_eq_false; omega) | (apply beq_iff_eq.2; omega) | (apply beq_eq_false_iff_ne.2; omega) | (apply bne_iff_ne.2; omega) | (apply bne_eq_false_iff_eq.2; omega) | (simp; done))))
    | ((with_reducible apply SW.cond); rfl; all_goals (intro h; first | replace h := beq_t h | replace h := beq_f h | replace h := bne_t h | replace h := bne_f h | replace h := of_decide_eq_true h | replace h := of_decide_eq_false h | skip))
    | ((with_reducible apply SW.region0); kernel_rfl; rfl))
  all_goals ((first | refine Q.dret (.cons (.tmp rfl) .nil) ?_ | refine Q.dret (.cons (.cell rfl (by repeat (first | exact List.Mem.head _ | apply List.Mem.tail)) rfl) .nil) ?_ | refine Q.dret (.cons (.tmp rfl) (.cons (.tmp rfl) .nil)) ?_); (simp only [tupV]; rw [he]))

def faultV : Value := .iface 38 (.agg [].toArray)
def faultCh : List PanicEntry := [{ v := faultV, recovered := false }]

set_option maxHeartbeats 4000000 in
set_option maxRecDepth 4000 in
theorem must_xc (H : Hp) (b : Bool) : XC Try.prog 17 #[.bool b] H (fun u H' => b = true ∧ u = .tuple #[] ∧ H' = H) (fun ch H' => b = false ∧ ch = faultCh ∧ H' = H) := by
  cases b
  all_goals refine XC.of_sw Try.func17 rfl Try.ntmps17 (Nat.le_of_ble_eq_true rfl) fun C => ?_
  repeat' (first
    | ((with_reducible apply G.at); rfl; first
       | ((with_reducible apply G.move); rfl; rfl) | ((with_reducible apply G.assign); rfl; rfl)
       | ((with_reducible apply G.load0); rfl; rfl; (focus (repeat (first | exact List.Mem.head _ | assumption | apply List.Mem.tail | apply mem_oH))); rfl) | ((with_reducible apply G.load1); rfl; rfl; (focus (repeat (first | exact List.Mem.head _ | assumption | apply List.Mem.tail | apply mem_oH))); rfl)
       | ((with_reducible apply G.faddrh (k := 0)); rfl; rfl; rfl) | ((with_reducible apply G.faddrh (k := 1)); rfl; rfl; rfl) | ((with_reducible apply G.faddrh (k := 2)); rfl; rfl; rfl) | ((with_reducible apply G.faddrh (k := 3)); rfl; rfl; rfl) | ((with_reducible apply G.faddrh (k := 4)); rfl; rfl; rfl) | ((with_reducible apply G.faddrh (k := 5)); rfl; rfl; rfl) | ((with_reducible apply G.faddrh (k := 6)); rfl; rfl; rfl) | ((with_reducible apply G.faddrh (k := 7)); rfl; rfl; rfl)
       | ((with_reducible apply G.panic); rfl; rfl)
       | ((with_reducible apply G.nilck); rfl; rfl) | ((with_reducible apply G.extract); rfl; rfl; rfl) | ((with_reducible apply G.len); rfl; rfl; rfl) | ((with_reducible apply G.pick1); rfl; rfl; rfl) | ((with_reducible apply G.pick0); rfl; rfl; rfl) | ((with_reducible apply G.unw); rfl) | ((with_reducible apply G.unw0); rfl)
       | ((with_reducible apply G.boxa); rfl; rfl; intro b) | ((with_reducible apply G.box); rfl; rfl; intro b) | ((with_reducible apply G.alloc); rfl; rfl; rfl; intro b)
       | ((with_reducible apply G.store); rfl; rfl; rfl; rfl; rfl; rfl; (focus (repeat (first | assumption | exact Rem.here | apply Rem.there | apply Rem.oH))); (exact Nat.le_of_ble_eq_true rfl); (focus (repeat (first | exact StOk.nil | (refine StOk.keep ?_ ?_; (focus ((repeat (first | exact List.Mem.head _ | assumption | apply List.Mem.tail | apply mem_oH)); done))) | refine StOk.gone (by kernel_rfl) ?_))); rfl)
       | ((with_reducible apply G.build); rfl; rfl; rfl) | ((with_reducible apply G.eqs); rfl; rfl; rfl; rfl; (kernel_rfl); (kernel_rfl)) | ((with_reducible apply G.nes); rfl; rfl; rfl; rfl; (kernel_rfl); (kernel_rfl))
       | ((with_reducible apply G.num); rfl; rfl; rfl; rfl; rfl; (first | ((with_reducible apply shl8); omega; omega) | ((with_reducible apply shl16); omega; omega) | ((with_reducible apply or8); omega; omega; omega; omega) | ((with_reducible apply or16); omega; omega; omega; omega) | ((with_reducible apply or24); omega; omega; omega; omega; omega; omega) | ((with_reducible apply i64_in); omega; omega) | ((with_reducible apply wrap8_in); omega; omega) | ((with_reducible apply u64_in); omega; omega) | with_reducible exact shr16 _ | with_reducible exact shr8 _ | with_reducible exact wrap8_mod _ | with_reducible exact shr32u _ | ((with_reducible apply and32u); omega; omega) | with_reducible exact wrap64_mod _))
       | ((with_reducible apply G.min2); rfl; rfl; rfl; (first | (apply if_pos; omega) | (apply if_neg; omega) | rfl)) | ((with_reducible apply G.max2); rfl; rfl; rfl; (first | (apply if_pos; omega) | (apply if_neg; omega) | rfl))
       | ((with_reducible apply G.pure); rfl; rfl; rfl; rfl; rfl)
       | ((with_reducible apply G.known true); rfl; rfl; rfl; (focus (first | rfl | (apply decide_eq_true; omega) | (apply decide_eq_false; omega) | (apply beq_iff_eq.2; omega) | (apply beq_eq_false_iff_ne.2; omega) | (apply bne_iff_ne.2; omega) | (apply bne_eq_false_iff_eq.2; omega) | (simp; done)))) | ((with_reducible apply G.known false); rfl; rfl; rfl; (focus (first | rfl | (apply decide_eq_true; omega) | (apply decide_eq_false; omega) | (apply beq_iff_eq.2; omega) | (apply beq_eq_false_iff_ne.2; omega) | (apply bne_iff_ne.2; omega) | (apply bne_eq_false_iff_eq.2; omega) | (simp; done))))
       | ((with_reducible apply G.split); rfl; rfl; rfl; all_goals (intro h; first | replace h := beq_t h | replace h := beq_f h | replace h := bne_t h | replace h := bne_f h | replace h := of_decide_eq_true h | replace h := of_decide_eq_false h | skip)))
    | with_reducible apply RG.done | with_reducible apply Q.tn | with_reducible apply Q.tr | with_reducible apply Q.te | with_reducible apply Q.bn | with_reducible apply Q.br | with_reducible apply Q.be | ((with_reducible apply Q.bx); decide) | with_reducible apply Q.tp | with_reducible apply Q.bp
    | with_reducible apply SW.seq | with_reducible apply SW.block | with_reducible apply SW.ret | with_reducible apply SW.skip | with_reducible apply SW.exit
    | ((with_reducible apply SW.cond1); rfl; (focus (first | rfl | (apply decide_eq_true; omega) | (apply decide_eq_false; omega) | (apply beq_iff_eq.2; omega) | (apply beq_eq_false_iff_ne.2; omega) | (apply bne_iff_ne.2; omega) | (apply bne_eq_false_iff_eq.2; omega) | (simp; done)))) | ((with_reducible apply SW.cond0); rfl; (focus (first | rfl | (apply decide_eq_true; omega) | (apply decide_eq_false; omega) | (apply beq_iff_eq.2; omega) | (apply beq_eq_false_iff_ne.2; omega) | (apply bne_iff_ne.2; omega) | (apply bne_eq_false_iff_eq.2; omega) | (simp; done))))
    | ((with_reducible apply SW.cond); rfl; all_goals (intro h; first | replace h := beq_t h | replace h := beq_f h | replace h := bne_t h | replace h := bne_f h | replace h := of_decide_eq_true h | replace h := of_decide_eq_false h | skip))
    | ((with_reducible apply SW.region0); kernel_rfl; rfl))
  all_goals first | (apply Q.xp; exact Rems.all; exact ⟨rfl, rfl, rfl⟩) | (apply Q.xr; apply Q.fall .nil; exact Rems.all; exact ⟨rfl, rfl, rfl⟩)
set_option maxHeartbeats 4000000 in
set_option maxRecDepth 4000 in
theorem rec_back (H : Hp) (p q : Value) : CD Try.prog 16 #[p, q] .returning .returning H H := by
  refine CD.of_sw Try.func16 rfl Try.ntmps16 (Nat.le_of_ble_eq_true rfl) rfl (by decide) .back fun C => ?_
  repeat' (first
    | ((with_reducible apply G.at); rfl; first
       | ((with_reducible apply G.move); rfl; rfl) | ((with_reducible apply G.assign); rfl; rfl)
       | ((with_reducible apply G.load0); rfl; rfl; (focus (repeat (first | exact List.Mem.head _ | assumption | apply List.Mem.tail | apply mem_oH))); rfl) | ((with_reducible apply G.load1); rfl; rfl; (focus (repeat (first | exact List.Mem.head _ | assumption | apply List.Mem.tail | apply mem_oH))); rfl)
       | ((with_reducible apply G.faddrh (k := 0)); rfl; rfl; rfl) | ((with_reducible apply G.faddrh (k := 1)); rfl; rfl; rfl) | ((with_reducible apply G.faddrh (k := 2)); rfl; rfl; rfl) | ((with_reducible apply G.faddrh (k := 3)); rfl; rfl; rfl) | ((with_reducible apply G.faddrh (k := 4)); rfl; rfl; rfl) | ((with_reducible apply G.faddrh (k := 5)); rfl; rfl; rfl) | ((with_reducible apply G.faddrh (k := 6)); rfl; rfl; rfl) | ((with_reducible apply G.faddrh (k := 7)); rfl; rfl; rfl)
       | ((with_reducible apply G.nilck); rfl; rfl) | ((with_reducible apply G.extract); rfl; rfl; rfl) | ((with_reducible apply G.len); rfl; rfl; rfl) | ((with_reducible apply G.pick1); rfl; rfl; rfl) | ((with_reducible apply G.pick0); rfl; rfl; rfl) | ((with_reducible apply G.unw); rfl) | ((with_reducible apply G.unw0); rfl)
       | ((with_reducible apply G.boxa); rfl; rfl; intro b) | ((with_reducible apply G.box); rfl; rfl; intro b) | ((with_reducible apply G.alloc); rfl; rfl; rfl; intro b)
       | ((with_reducible apply G.store); rfl; rfl; rfl; rfl; rfl; rfl; (focus (repeat (first | assumption | exact Rem.here | apply Rem.there | apply Rem.oH))); (exact Nat.le_of_ble_eq_true rfl); (focus (repeat (first | exact StOk.nil | (refine StOk.keep ?_ ?_; (focus ((repeat (first | exact List.Mem.head _ | assumption | apply List.Mem.tail | apply mem_oH)); done))) | refine StOk.gone (by kernel_rfl) ?_))); rfl)
       | ((with_reducible apply G.build); rfl; rfl; rfl) | ((with_reducible apply G.eqs); rfl; rfl; rfl; rfl; (kernel_rfl); (kernel_rfl)) | ((with_reducible apply G.nes); rfl; rfl; rfl; rfl; (kernel_rfl); (kernel_rfl))
       | ((with_reducible apply G.num); rfl; rfl; rfl; rfl; rfl; (first | ((with_reducible apply shl8); omega; omega) | ((with_reducible apply shl16); omega; omega) | ((with_reducible apply or8); omega; omega; omega; omega) | ((with_reducible apply or16); omega; omega; omega; omega) | ((with_reducible apply or24); omega; omega; omega; omega; omega; omega) | ((with_reducible apply i64_in); omega; omega) | ((with_reducible apply wrap8_in); omega; omega) | ((with_reducible apply u64_in); omega; omega) | with_reducible exact shr16 _ | with_reducible exact shr8 _ | with_reducible exact wrap8_mod _ | with_reducible exact shr32u _ | ((with_reducible apply and32u); omega; omega) | with_reducible exact wrap64_mod _))
       | ((with_reducible apply G.min2); rfl; rfl; rfl; (first | (apply if_pos; omega) | (apply if_neg; omega) | rfl)) | ((with_reducible apply G.max2); rfl; rfl; rfl; (first | (apply if_pos; omega) | (apply if_neg; omega) | rfl))
       | ((with_reducible apply G.pure); rfl; rfl; rfl; rfl; rfl)
       | ((with_reducible apply G.known true); rfl; rfl; rfl; (focus (first | rfl | (apply decide_eq_true; omega) | (apply decide_eq_false; omega) | (apply beq_iff_eq.2; omega) | (apply beq_eq_false_iff_ne.2; omega) | (apply bne_iff_ne.2; omega) | (apply bne_eq_false_iff_eq.2; omega) | (simp; done)))) | ((with_reducible apply G.known false); rfl; rfl; rfl; (focus (first | rfl | (apply decide_eq_true; omega) | (apply decide_eq_false; omega) | (apply beq_iff_eq.2; omega) | (apply beq_eq_false_iff_ne.2; omega) | (apply bne_iff_ne.2; omega) | (apply bne_eq_false_iff_eq.2; omega) | (simp; done))))
       | ((with_reducible apply G.split); rfl; rfl; rfl; all_goals (intro h; first | replace h := beq_t h | replace h := beq_f h | replace h := bne_t h | replace h := bne_f h | replace h := of_decide_eq_true h | replace h := of_decide_eq_false h | skip)))
    | with_reducible apply RG.done | with_reducible apply Q.tn | with_reducible apply Q.tr | with_reducible apply Q.te | with_reducible apply Q.bn | with_reducible apply Q.br | with_reducible apply Q.be | ((with_reducible apply Q.bx); decide) | with_reducible apply Q.tp | with_reducible apply Q.bp
    | with_reducible apply SW.seq | with_reducible apply SW.block | with_reducible apply SW.ret | with_reducible apply SW.skip | with_reducible apply SW.exit
    | ((with_reducible apply SW.cond1); rfl; (focus (first | rfl | (apply decide_eq_true; omega) | (apply decide_eq_false; omega) | (apply beq_iff_eq.2; omega) | (apply beq_eq_false_iff_ne.2; omega) | (apply bne_iff_ne.2; omega) | (apply bne_eq_false_iff_eq.2; omega) | (simp; done)))) | ((with_reducible apply SW.cond0); rfl; (focus (first | rfl | (apply decide_eq_true; omega) | (apply decide_eq_false; omega) | (apply beq_iff_eq.2; omega) | (apply beq_eq_false_iff_ne.2; omega) | (apply bne_iff_ne.2; omega) | (apply bne_eq_false_iff_eq.2; omega) | (simp; done))))
    | ((with_reducible apply SW.cond); rfl; all_goals (intro h; first | replace h := beq_t h | replace h := beq_f h | replace h := bne_t h | replace h := bne_f h | replace h := of_decide_eq_true h | replace h := of_decide_eq_false h | skip))
    | ((with_reducible apply SW.region0); kernel_rfl; rfl))
  all_goals (apply Q.cdn; exact Rems.all)
set_option maxHeartbeats 4000000 in
set_option maxRecDepth 4000 in
theorem rec_caught (H F0 F1 : Hp) (b0 b1 : Nat) (v0 v1 : Value) (h0 : Rem H (b0, .row 22 [v0] 0) F0) (h1 : Rem F0 (b1, .row 4 [v1] 0) F1) : CD Try.prog 16 #[.pointer (some ⟨b0, 0, none⟩), .pointer (some ⟨b1, 0, none⟩)] (.panicking faultCh) (.panicking [{ v := faultV, recovered := true }]) H ((b1, .row 4 [.bool false] 0) :: (b0, .row 22 [.int .u64 0] 0) :: F1) := by
  refine CD.of_sw Try.func16 rfl Try.ntmps16 (Nat.le_of_ble_eq_true rfl) rfl (by decide) .caught fun C => ?_
  repeat' (first
    | ((with_reducible apply G.at); rfl; first
       | ((with_reducible apply G.move); rfl; rfl) | ((with_reducible apply G.assign); rfl; rfl)
       | ((with_reducible apply G.load0); rfl; rfl; (focus (repeat (first | exact List.Mem.head _ | assumption | apply List.Mem.tail | apply mem_oH))); rfl) | ((with_reducible apply G.load1); rfl; rfl; (focus (repeat (first | exact List.Mem.head _ | assumption | apply List.Mem.tail | apply mem_oH))); rfl)
       | ((with_reducible apply G.faddrh (k := 0)); rfl; rfl; rfl) | ((with_reducible apply G.faddrh (k := 1)); rfl; rfl; rfl) | ((with_reducible apply G.faddrh (k := 2)); rfl; rfl; rfl) | ((with_reducible apply G.faddrh (k := 3)); rfl; rfl; rfl) | ((with_reducible apply G.faddrh (k := 4)); rfl; rfl; rfl) | ((with_reducible apply G.faddrh (k := 5)); rfl; rfl; rfl) | ((with_reducible apply G.faddrh (k := 6)); rfl; rfl; rfl) | ((with_reducible apply G.faddrh (k := 7)); rfl; rfl; rfl)
       | ((with_reducible apply G.nilck); rfl; rfl) | ((with_reducible apply G.extract); rfl; rfl; rfl) | ((with_reducible apply G.len); rfl; rfl; rfl) | ((with_reducible apply G.pick1); rfl; rfl; rfl) | ((with_reducible apply G.pick0); rfl; rfl; rfl) | ((with_reducible apply G.unw); rfl) | ((with_reducible apply G.unw0); rfl)
       | ((with_reducible apply G.boxa); rfl; rfl; intro b) | ((with_reducible apply G.box); rfl; rfl; intro b) | ((with_reducible apply G.alloc); rfl; rfl; rfl; intro b)
       | ((with_reducible apply G.store); rfl; rfl; rfl; rfl; rfl; rfl; (focus (repeat (first | assumption | exact Rem.here | apply Rem.there | apply Rem.oH))); (exact Nat.le_of_ble_eq_true rfl); (focus (repeat (first | exact StOk.nil | (refine StOk.keep ?_ ?_; (focus ((repeat (first | exact List.Mem.head _ | assumption | apply List.Mem.tail | apply mem_oH)); done))) | refine StOk.gone (by kernel_rfl) ?_))); rfl)
       | ((with_reducible apply G.build); rfl; rfl; rfl) | ((with_reducible apply G.eqs); rfl; rfl; rfl; rfl; (kernel_rfl); (kernel_rfl)) | ((with_reducible apply G.nes); rfl; rfl; rfl; rfl; (kernel_rfl); (kernel_rfl))
       | ((with_reducible apply G.num); rfl; rfl; rfl; rfl; rfl; (first | ((with_reducible apply shl8); omega; omega) | ((with_reducible apply shl16); omega; omega) | ((with_reducible apply or8); omega; omega; omega; omega) | ((with_reducible apply or16); omega; omega; omega; omega) | ((with_reducible apply or24); omega; omega; omega; omega; omega; omega) | ((with_reducible apply i64_in); omega; omega) | ((with_reducible apply wrap8_in); omega; omega) | ((with_reducible apply u64_in); omega; omega) | with_reducible exact shr16 _ | with_reducible exact shr8 _ | with_reducible exact wrap8_mod _ | with_reducible exact shr32u _ | ((with_reducible apply and32u); omega; omega) | with_reducible exact wrap64_mod _))
       | ((with_reducible apply G.min2); rfl; rfl; rfl; (first | (apply if_pos; omega) | (apply if_neg; omega) | rfl)) | ((with_reducible apply G.max2); rfl; rfl; rfl; (first | (apply if_pos; omega) | (apply if_neg; omega) | rfl))
       | ((with_reducible apply G.pure); rfl; rfl; rfl; rfl; rfl)
       | ((with_reducible apply G.known true); rfl; rfl; rfl; (focus (first | rfl | (apply decide_eq_true; omega) | (apply decide_eq_false; omega) | (apply beq_iff_eq.2; omega) | (apply beq_eq_false_iff_ne.2; omega) | (apply bne_iff_ne.2; omega) | (apply bne_eq_false_iff_eq.2; omega) | (simp; done)))) | ((with_reducible apply G.known false); rfl; rfl; rfl; (focus (first | rfl | (apply decide_eq_true; omega) | (apply decide_eq_false; omega) | (apply beq_iff_eq.2; omega) | (apply beq_eq_false_iff_ne.2; omega) | (apply bne_iff_ne.2; omega) | (apply bne_eq_false_iff_eq.2; omega) | (simp; done))))
       | ((with_reducible apply G.split); rfl; rfl; rfl; all_goals (intro h; first | replace h := beq_t h | replace h := beq_f h | replace h := bne_t h | replace h := bne_f h | replace h := of_decide_eq_true h | replace h := of_decide_eq_false h | skip)))
    | with_reducible apply RG.done | with_reducible apply Q.tn | with_reducible apply Q.tr | with_reducible apply Q.te | with_reducible apply Q.bn | with_reducible apply Q.br | with_reducible apply Q.be | ((with_reducible apply Q.bx); decide) | with_reducible apply Q.tp | with_reducible apply Q.bp
    | with_reducible apply SW.seq | with_reducible apply SW.block | with_reducible apply SW.ret | with_reducible apply SW.skip | with_reducible apply SW.exit
    | ((with_reducible apply SW.cond1); rfl; (focus (first | rfl | (apply decide_eq_true; omega) | (apply decide_eq_false; omega) | (apply beq_iff_eq.2; omega) | (apply beq_eq_false_iff_ne.2; omega) | (apply bne_iff_ne.2; omega) | (apply bne_eq_false_iff_eq.2; omega) | (simp; done)))) | ((with_reducible apply SW.cond0); rfl; (focus (first | rfl | (apply decide_eq_true; omega) | (apply decide_eq_false; omega) | (apply beq_iff_eq.2; omega) | (apply beq_eq_false_iff_ne.2; omega) | (apply bne_iff_ne.2; omega) | (apply bne_eq_false_iff_eq.2; omega) | (simp; done))))
    | ((with_reducible apply SW.cond); rfl; all_goals (intro h; first | replace h := beq_t h | replace h := beq_f h | replace h := bne_t h | replace h := bne_f h | replace h := of_decide_eq_true h | replace h := of_decide_eq_false h | skip))
    | ((with_reducible apply SW.region0); kernel_rfl; rfl))
  all_goals (apply Q.cdn; (focus (repeat (first | exact Rems.all | exact Rems.nil | (apply Rems.own; (focus (repeat (first | exact OIn.here | apply OIn.there | apply OIn.over)))) | (apply Rems.cons; (focus (repeat (first | assumption | exact Rem.here | apply Rem.there | apply Rem.oH)))) | apply Rems.skip | apply Rems.oskip))))

/-- When a level becomes more. -/
@[irreducible] def nxt (b s n p : Int) : Int × Bool :=
  if p = 0 ∨ 255 ≤ lvl b s n p then (0, false)
  else if (sub n s / p + 1) * p < 18446744073709551616 ∧ (sub n s / p + 1) * p ≤ 18446744073709551615 - s then (s + (sub n s / p + 1) * p, true) else (0, false)
theorem nxt_0 {b s n p : Int} (h : p = 0) : nxt b s n p = (0, false) := by unfold nxt; rw [if_pos (.inl h)]
theorem nxt_top {b s n p : Int} (h : 255 ≤ lvl b s n p) : nxt b s n p = (0, false) := by unfold nxt; rw [if_pos (.inr h)]
theorem nxt_over {b s n p : Int} (h : ¬ ((sub n s / p + 1) * p < 18446744073709551616 ∧ (sub n s / p + 1) * p ≤ 18446744073709551615 - s)) : nxt b s n p = (0, false) := by
  unfold nxt
  by_cases g : p = 0 ∨ 255 ≤ lvl b s n p
  · rw [if_pos g]
  · rw [if_neg g, if_neg h]
theorem nxt_in {b s n p : Int} (h0 : ¬ p = 0) (h1 : ¬ 255 ≤ lvl b s n p) (h2 : (sub n s / p + 1) * p < 18446744073709551616) (h3 : (sub n s / p + 1) * p ≤ 18446744073709551615 - s) : nxt b s n p = (s + (sub n s / p + 1) * p, true) := by
  unfold nxt; rw [if_neg (by omega), if_pos ⟨h2, h3⟩]
/-- Of a level that is not the last one so many periods have gone by. -/
theorem per_lt {b s n p : Int} (h0 : ¬ p = 0) (h1 : ¬ 255 ≤ lvl b s n p) : sub n s / p < 255 - b ∧ lvl b s n p = b + sub n s / p := by
  by_cases h : 255 - b ≤ sub n s / p
  · rw [lvl_top h0 h] at h1; omega
  · exact ⟨by omega, lvl_in h0 h⟩

set_option maxHeartbeats 4000000 in
set_option maxRecDepth 4000 in
theorem next_oc (Hb : Hp) (b s n p : Int) (hb : U8 b) (hs : U64 s) (hn : U64 n) (hp : U64 p) : RC Try.prog 10 #[.int .u8 b, .int .u64 s, .int .u64 n, .int .u64 p] Hb (.tuple #[.int .u64 (nxt b s n p).1, .bool (nxt b s n p).2]) := by
  have hsn := sub_rng hn hs
  have hpr := per_rng hs hn hp
  have hb' := hb
  have hs' := hs
  have hn' := hn
  have hp' := hp
  obtain ⟨b1, b2⟩ := hb'
  obtain ⟨s1, s2⟩ := hs'
  obtain ⟨n1, n2⟩ := hn'
  obtain ⟨p1, p2⟩ := hp'
  obtain ⟨q1, q2⟩ := hsn
  obtain ⟨r1, r2⟩ := hpr
  have hlr := (lvl_rng hb hs hn hp).1
  obtain ⟨l1, l2⟩ := hlr
  by_cases h0 : p = 0
  case' neg => (by_cases h1 : 255 ≤ lvl b s n p; (case' neg => (obtain ⟨g1, g2⟩ := per_lt h0 h1; have hk : U64 (sub n s / p + 1) := ⟨by omega, by omega⟩; have hm0 : 0 ≤ (sub n s / p + 1) * p := Int.mul_nonneg hk.1 p1; by_cases h2 : (sub n s / p + 1) * p < 18446744073709551616; (case' pos => (have hmod : (sub n s / p + 1) * p % 18446744073709551616 = (sub n s / p + 1) * p := Int.emod_eq_of_lt hm0 h2; have hdiv : (sub n s / p + 1) * p / 18446744073709551616 = 0 := Int.ediv_eq_zero_of_lt hm0 h2; by_cases h3 : (sub n s / p + 1) * p ≤ 18446744073709551615 - s)))))
  all_goals (try unfold RC)
  all_goals refine OC.of_dw Try.func10 rfl Try.ntmps10 (Nat.le_of_ble_eq_true rfl) (by decide) Try.call16 fun C => ?_
  repeat' (first
    | ((with_reducible apply Q.dws); rfl)
    | ((with_reducible apply G.at); rfl; first
       | ((with_reducible apply G.move); rfl; rfl) | ((with_reducible apply G.assign); rfl; rfl)
       | ((with_reducible apply G.load0); rfl; rfl; (focus (repeat (first | exact List.Mem.head _ | assumption | apply List.Mem.tail | apply mem_oH))); rfl) | ((with_reducible apply G.load1); rfl; rfl; (focus (repeat (first | exact List.Mem.head _ | assumption | apply List.Mem.tail | apply mem_oH))); rfl)
       | ((with_reducible apply G.faddrh (k := 0)); rfl; rfl; rfl) | ((with_reducible apply G.faddrh (k := 1)); rfl; rfl; rfl) | ((with_reducible apply G.faddrh (k := 2)); rfl; rfl; rfl) | ((with_reducible apply G.faddrh (k := 3)); rfl; rfl; rfl) | ((with_reducible apply G.faddrh (k := 4)); rfl; rfl; rfl) | ((with_reducible apply G.faddrh (k := 5)); rfl; rfl; rfl) | ((with_reducible apply G.faddrh (k := 6)); rfl; rfl; rfl) | ((with_reducible apply G.faddrh (k := 7)); rfl; rfl; rfl)
       | ((with_reducible apply G.quo); rfl; rfl; rfl; omega; omega; (show _ ≤ (18446744073709551615 : Int)); omega)
       | ((with_reducible apply G.alloc (e := 22)); rfl; rfl; rfl; intro b0)
       | ((with_reducible apply G.alloc (e := 4)); rfl; rfl; rfl; intro b1)
       | ((with_reducible apply G.dcall (f := 15)); rfl; rfl; exact Try.call15; exact (level_dc _ _ _ _ (by assumption) (by assumption) (by assumption) (by assumption)))
       | ((with_reducible apply G.xcall (f := 17)); rfl; rfl; exact Try.call17; (exact must_xc _ _); (rintro _ _ ⟨hok, rfl, rfl⟩; first | (exfalso; revert hok; simp; done) | (exfalso; revert hok; simp; omega) | skip; (focus (repeat (first | exact StOk.nil | (refine StOk.keep ?_ ?_; (focus ((repeat (first | exact List.Mem.head _ | assumption | apply List.Mem.tail | apply mem_oH)); done))) | refine StOk.gone (by kernel_rfl) ?_)))); (case' next => (rintro _ _ ⟨hok, rfl, rfl⟩; first | (exfalso; revert hok; simp; done) | (exfalso; revert hok; simp; omega) | skip)); (case' nextp => (rintro _ _ ⟨hok, rfl, rfl⟩; first | (exfalso; revert hok; simp; done) | (exfalso; revert hok; simp; omega) | skip)))
       | ((with_reducible apply G.dcall (f := 19)); rfl; rfl; exact Try.call19; exact (mul64_dc _ _ (by assumption) (by assumption)))
       | ((with_reducible apply G.dcall (f := 18)); rfl; rfl; exact Try.call18; exact (sub_dc _ _ hn hs))
       | ((with_reducible apply G.nilck); rfl; rfl) | ((with_reducible apply G.extract); rfl; rfl; rfl) | ((with_reducible apply G.len); rfl; rfl; rfl) | ((with_reducible apply G.pick1); rfl; rfl; rfl) | ((with_reducible apply G.pick0); rfl; rfl; rfl) | ((with_reducible apply G.unw); rfl) | ((with_reducible apply G.unw0); rfl)
       | ((with_reducible apply G.boxa); rfl; rfl; intro b) | ((with_reducible apply G.box); rfl; rfl; intro b) | ((with_reducible apply G.alloc); rfl; rfl; rfl; intro b)
       | ((with_reducible apply G.store); rfl; rfl; rfl; rfl; rfl; rfl; (focus (repeat (first | assumption | exact Rem.here | apply Rem.there | apply Rem.oH))); (exact Nat.le_of_ble_eq_true rfl); (focus (repeat (first | exact StOk.nil | (refine StOk.keep ?_ ?_; (focus ((repeat (first | exact List.Mem.head _ | assumption | apply List.Mem.tail | apply mem_oH)); done))) | refine StOk.gone (by kernel_rfl) ?_))); rfl)
       | ((with_reducible apply G.build); rfl; rfl; rfl) | ((with_reducible apply G.eqs); rfl; rfl; rfl; rfl; (kernel_rfl); (kernel_rfl)) | ((with_reducible apply G.nes); rfl; rfl; rfl; rfl; (kernel_rfl); (kernel_rfl))
       | ((with_reducible apply G.num); rfl; rfl; rfl; rfl; rfl; (first | ((with_reducible apply shl8); omega; omega) | ((with_reducible apply shl16); omega; omega) | ((with_reducible apply or8); omega; omega; omega; omega) | ((with_reducible apply or16); omega; omega; omega; omega) | ((with_reducible apply or24); omega; omega; omega; omega; omega; omega) | ((with_reducible apply i64_in); omega; omega) | ((with_reducible apply wrap8_in); omega; omega) | ((with_reducible apply u64_in); omega; omega) | with_reducible exact shr16 _ | with_reducible exact shr8 _ | with_reducible exact wrap8_mod _ | with_reducible exact shr32u _ | ((with_reducible apply and32u); omega; omega) | with_reducible exact wrap64_mod _))
       | ((with_reducible apply G.min2); rfl; rfl; rfl; (first | (apply if_pos; omega) | (apply if_neg; omega) | rfl)) | ((with_reducible apply G.max2); rfl; rfl; rfl; (first | (apply if_pos; omega) | (apply if_neg; omega) | rfl))
       | ((with_reducible apply G.pure); rfl; rfl; rfl; rfl; rfl)
       | ((with_reducible apply G.known true); rfl; rfl; rfl; (focus (first | rfl | (apply decide_eq_true; omega) | (apply decide_eq_false; omega) | (apply beq_iff_eq.2; omega) | (apply beq_eq_false_iff_ne.2; omega) | (apply bne_iff_ne.2; omega) | (apply bne_eq_false_iff_eq.2; omega) | (simp; done)))) | ((with_reducible apply G.known false); rfl; rfl; rfl; (focus (first | rfl | (apply decide_eq_true; omega) | (apply decide_eq_false; omega) | (apply beq_iff_eq.2; omega) | (apply beq_eq_false_iff_ne.2; omega) | (apply bne_iff_ne.2; omega) | (apply bne_eq_false_iff_eq.2; omega) | (simp; done))))
       | ((with_reducible apply G.split); rfl; rfl; rfl; all_goals (intro h; first | replace h := beq_t h | replace h := beq_f h | replace h := bne_t h | replace h := bne_f h | replace h := of_decide_eq_true h | replace h := of_decide_eq_false h | skip)))
    | with_reducible apply RG.done | with_reducible apply Q.tn | with_reducible apply Q.tr | with_reducible apply Q.te | with_reducible apply Q.bn | with_reducible apply Q.br | with_reducible apply Q.be | ((with_reducible apply Q.bx); decide) | with_reducible apply Q.tp | with_reducible apply Q.bp
    | with_reducible apply SW.seq | with_reducible apply SW.block | with_reducible apply SW.ret | with_reducible apply SW.skip | with_reducible apply SW.exit
    | ((with_reducible apply SW.cond1); rfl; (focus (first | rfl | (apply decide_eq_true; omega) | (apply decide_eq_false; omega) | (apply beq_iff_eq.2; omega) | (apply beq_eq_false_iff_ne.2; omega) | (apply bne_iff_ne.2; omega) | (apply bne_eq_false_iff_eq.2; omega) | (simp; done)))) | ((with_reducible apply SW.cond0); rfl; (focus (first | rfl | (apply decide_eq_true; omega) | (apply decide_eq_false; omega) | (apply beq_iff_eq.2; omega) | (apply beq_eq_false_iff_ne.2; omega) | (apply bne_iff_ne.2; omega) | (apply bne_eq_false_iff_eq.2; omega) | (simp; done))))
    | ((with_reducible apply SW.cond); rfl; all_goals (intro h; first | replace h := beq_t h | replace h := beq_f h | replace h := bne_t h | replace h := bne_f h | replace h := of_decide_eq_true h | replace h := of_decide_eq_false h | skip))
    | ((with_reducible apply SW.region0); kernel_rfl; rfl))
  all_goals first
    | ((apply Q.dfp (H' := Hb)); (focus ((apply rec_caught); (focus (repeat (first | assumption | exact Rem.here | apply Rem.there | apply Rem.oH))); (focus (repeat (first | assumption | exact Rem.here | apply Rem.there | apply Rem.oH))))); exact (.cons (by first | exact .tmp rfl | exact .cell rfl (by repeat (first | exact List.Mem.head _ | apply List.Mem.tail)) rfl) (.cons (by first | exact .tmp rfl | exact .cell rfl (by repeat (first | exact List.Mem.head _ | apply List.Mem.tail)) rfl) .nil)); (focus (repeat (first | exact Rems.all | exact Rems.nil | (apply Rems.own; (focus (repeat (first | exact OIn.here | apply OIn.there | apply OIn.over)))) | (apply Rems.cons; (focus (repeat (first | assumption | exact Rem.here | apply Rem.there | apply Rem.oH)))) | apply Rems.skip | apply Rems.oskip))); refine ⟨?_, rfl⟩; first | (rw [nxt_0 h0]; rfl) | (rw [nxt_top h1]; rfl) | (rw [nxt_over (fun hh => absurd hh.1 h2)]; rfl) | (rw [nxt_over (fun hh => absurd hh.2 h3)]; rfl))
    | ((apply Q.dfr (H' := Hb)); exact rec_back _ _ _; exact (.cons (by first | exact .tmp rfl | exact .cell rfl (by repeat (first | exact List.Mem.head _ | apply List.Mem.tail)) rfl) (.cons (by first | exact .tmp rfl | exact .cell rfl (by repeat (first | exact List.Mem.head _ | apply List.Mem.tail)) rfl) .nil)); (focus (repeat (first | exact Rems.all | exact Rems.nil | (apply Rems.own; (focus (repeat (first | exact OIn.here | apply OIn.there | apply OIn.over)))) | (apply Rems.cons; (focus (repeat (first | assumption | exact Rem.here | apply Rem.there | apply Rem.oH)))) | apply Rems.skip | apply Rems.oskip))); refine ⟨?_, rfl⟩; rw [nxt_in h0 h1 h2 h3]; (show Value.tuple #[.int .u64 (s + (sub n s / p + 1) * p % 18446744073709551616), .bool true] = _); rw [hmod])

theorem ref_facts {b s n p : Int} (hs : U64 s) (hn : U64 n) (hp : U64 p) (h0 : ¬ p = 0) (m : Int) (hm : 1 ≤ m) (hm2 : m ≤ sub n s / p + 1) :
    0 ≤ m * p ∧ m * p ≤ (sub n s / p + 1) * p ∧ (m < sub n s / p + 1 → s + m * p ≤ n) ∧ (m = sub n s / p + 1 → n < s + m * p) ∧ m * p / p = m ∧ (18446744073709551616 ≤ m * p → m * p % 18446744073709551616 / p < m) := by
  obtain ⟨q1, q2⟩ := sub_rng hn hs
  obtain ⟨p1, p2⟩ := hp
  have hpos : 0 < p := by omega
  refine ⟨Int.mul_nonneg (by omega) p1, Int.mul_le_mul_of_nonneg_right hm2 p1, fun h => ?_, fun h => ?_, Int.mul_ediv_cancel _ h0, fun h => ?_⟩
  · have h1 : m * p ≤ sub n s / p * p := Int.mul_le_mul_of_nonneg_right (by omega) p1
    have h2 := Int.ediv_mul_le (sub n s) h0
    have h3 : 1 * p ≤ m * p := Int.mul_le_mul_of_nonneg_right hm p1
    by_cases e : s ≤ n
    · rw [sub_le e] at *; omega
    · rw [sub_gt e] at *; omega
  · have h2 := Int.lt_ediv_add_one_mul_self (sub n s) hpos
    rw [h]
    by_cases e : s ≤ n
    · rw [sub_le e] at *; omega
    · rw [sub_gt e] at *; omega
  · have h1 : m * p % 18446744073709551616 ≤ m * p - p := by omega
    have h2 : m * p - p = (m - 1) * p := by rw [Int.sub_mul, Int.one_mul]
    have h3 := Int.ediv_le_ediv hpos h1
    rw [h2, Int.mul_ediv_cancel _ h0] at h3
    omega
theorem ref_gt {b s n p : Int} (hs : U64 s) (hn : U64 n) (hp : U64 p) (h0 : ¬ p = 0) (h1 : ¬ 255 ≤ lvl b s n p) (hm : 0 ≤ (sub n s / p + 1) * p) : lvl b s n p < lvl b s (s + (sub n s / p + 1) * p) p := by
  obtain ⟨g1, g2⟩ := per_lt h0 h1
  have e : sub (s + (sub n s / p + 1) * p) s = (sub n s / p + 1) * p := by rw [sub_le (by omega)]; omega
  have e2 : sub (s + (sub n s / p + 1) * p) s / p = sub n s / p + 1 := by rw [e, Int.mul_ediv_cancel _ h0]
  by_cases h : 255 - b ≤ sub (s + (sub n s / p + 1) * p) s / p
  · rw [lvl_top (n := s + (sub n s / p + 1) * p) h0 h]; omega
  · rw [lvl_in (n := s + (sub n s / p + 1) * p) h0 h, e2]; omega

set_option maxHeartbeats 4000000 in
set_option maxRecDepth 4000 in
theorem rnext_dc (b s n p : Int) (hb : U8 b) (hs : U64 s) (hn : U64 n) (hp : U64 p) : DC Try.prog 11 #[.int .u8 b, .int .u64 s, .int .u64 n, .int .u64 p] (.tuple #[.int .u64 (nxt b s n p).1, .bool (nxt b s n p).2]) := by
  have hsn := sub_rng hn hs
  have hpr := per_rng hs hn hp
  have hb' := hb
  have hs' := hs
  have hn' := hn
  have hp' := hp
  obtain ⟨b1, b2⟩ := hb'
  obtain ⟨s1, s2⟩ := hs'
  obtain ⟨n1, n2⟩ := hn'
  obtain ⟨p1, p2⟩ := hp'
  obtain ⟨q1, q2⟩ := hsn
  obtain ⟨r1, r2⟩ := hpr
  have hlr := (lvl_rng hb hs hn hp).1
  obtain ⟨l1, l2⟩ := hlr
  by_cases h0 : p = 0
  case' neg => (by_cases h1 : 255 ≤ lvl b s n p; (case' neg => (obtain ⟨g1, g2⟩ := per_lt h0 h1)))
  all_goals (try unfold RC)
  all_goals (try unfold DC)
  all_goals refine OC.of_sw Try.func11 rfl Try.ntmps11 (Nat.le_of_ble_eq_true rfl) fun C => ?_
  repeat' (first
    | ((with_reducible apply SW.bloopI (id := 0) (α := Int) (Inv := (fun m => 1 ≤ m ∧ m ≤ sub n s / p + 1)) (I := (fun m => [(0, .int .u8 b), (1, .int .u64 s), (2, .int .u64 n), (3, .int .u64 p), (10, .int .u8 (lvl b s n p)), (11, .int .u64 m)])) (J := (fun _ => [])) (μ := (fun m => (sub n s / p + 1 - m).toNat)) (x0 := 1)); (omega); (apply Exists.intro; apply And.intro; (focus (repeat (first | exact trivial | refine ⟨rfl, ?_⟩))); (focus (repeat (first | exact Rems.all | exact Rems.nil | (apply Rems.own; (focus (repeat (first | exact OIn.here | apply OIn.there | apply OIn.over)))) | (apply Rems.cons; (focus (repeat (first | assumption | exact Rem.here | apply Rem.there | apply Rem.oH)))) | apply Rems.skip | apply Rems.oskip)))); (intro m hm; obtain ⟨hm1, hm2⟩ := hm; obtain ⟨f1, f2, f3, f4, f5, f6⟩ := ref_facts (b := b) hs hn hp h0 m hm1 hm2; by_cases h2 : m * p < 18446744073709551616; (case' neg => have f6' := f6 (by omega)); (case' pos => (by_cases h3 : m * p ≤ 18446744073709551615 - s; (case' pos => (have ht : U64 (s + m * p) := ⟨by omega, by omega⟩; rcases (show m < sub n s / p + 1 ∨ m = sub n s / p + 1 by omega) with hlt | heq; (case' inl => have f3' := f3 hlt); (case' inr => (have f4' := f4 heq; have hgt := ref_gt (b := b) hs hn hp h0 h1 (by rw [← heq]; exact f1); rw [← heq] at hgt))))))))
    | ((refine Exists.intro (m + 1) ?_); (apply Exists.intro); (refine ⟨?_, ?_, ?_, ?_⟩); (exact ⟨by omega, by omega⟩); (focus (repeat (first | exact trivial | refine ⟨rfl, ?_⟩))); (focus (repeat (first | exact Rems.all | exact Rems.nil | (apply Rems.own; (focus (repeat (first | exact OIn.here | apply OIn.there | apply OIn.over)))) | (apply Rems.cons; (focus (repeat (first | assumption | exact Rem.here | apply Rem.there | apply Rem.oH)))) | apply Rems.skip | apply Rems.oskip))); (omega))
    | ((with_reducible apply G.at); rfl; first
       | ((with_reducible apply G.move); rfl; rfl) | ((with_reducible apply G.assign); rfl; rfl)
       | ((with_reducible apply G.load0); rfl; rfl; (focus (repeat (first | exact List.Mem.head _ | assumption | apply List.Mem.tail | apply mem_oH))); rfl) | ((with_reducible apply G.load1); rfl; rfl; (focus (repeat (first | exact List.Mem.head _ | assumption | apply List.Mem.tail | apply mem_oH))); rfl)
       | ((with_reducible apply G.faddrh (k := 0)); rfl; rfl; rfl) | ((with_reducible apply G.faddrh (k := 1)); rfl; rfl; rfl) | ((with_reducible apply G.faddrh (k := 2)); rfl; rfl; rfl) | ((with_reducible apply G.faddrh (k := 3)); rfl; rfl; rfl) | ((with_reducible apply G.faddrh (k := 4)); rfl; rfl; rfl) | ((with_reducible apply G.faddrh (k := 5)); rfl; rfl; rfl) | ((with_reducible apply G.faddrh (k := 6)); rfl; rfl; rfl) | ((with_reducible apply G.faddrh (k := 7)); rfl; rfl; rfl)
       | ((with_reducible apply G.quo); rfl; rfl; rfl; omega; omega; (show _ ≤ (18446744073709551615 : Int)); omega)
       | ((with_reducible apply G.dcall (f := 14)); rfl; rfl; exact Try.call14; exact (rlevel_dc _ _ _ _ (by assumption) (by assumption) (by assumption) (by assumption)))
       | ((with_reducible apply G.nilck); rfl; rfl) | ((with_reducible apply G.extract); rfl; rfl; rfl) | ((with_reducible apply G.len); rfl; rfl; rfl) | ((with_reducible apply G.pick1); rfl; rfl; rfl) | ((with_reducible apply G.pick0); rfl; rfl; rfl) | ((with_reducible apply G.unw); rfl) | ((with_reducible apply G.unw0); rfl)
       | ((with_reducible apply G.boxa); rfl; rfl; intro b) | ((with_reducible apply G.box); rfl; rfl; intro b) | ((with_reducible apply G.alloc); rfl; rfl; rfl; intro b)
       | ((with_reducible apply G.store); rfl; rfl; rfl; rfl; rfl; rfl; (focus (repeat (first | assumption | exact Rem.here | apply Rem.there | apply Rem.oH))); (exact Nat.le_of_ble_eq_true rfl); (focus (repeat (first | exact StOk.nil | (refine StOk.keep ?_ ?_; (focus ((repeat (first | exact List.Mem.head _ | assumption | apply List.Mem.tail | apply mem_oH)); done))) | refine StOk.gone (by kernel_rfl) ?_))); rfl)
       | ((with_reducible apply G.build); rfl; rfl; rfl) | ((with_reducible apply G.eqs); rfl; rfl; rfl; rfl; (kernel_rfl); (kernel_rfl)) | ((with_reducible apply G.nes); rfl; rfl; rfl; rfl; (kernel_rfl); (kernel_rfl))
       | ((with_reducible apply G.num); rfl; rfl; rfl; rfl; rfl; (first | ((with_reducible apply shl8); omega; omega) | ((with_reducible apply shl16); omega; omega) | ((with_reducible apply or8); omega; omega; omega; omega) | ((with_reducible apply or16); omega; omega; omega; omega) | ((with_reducible apply or24); omega; omega; omega; omega; omega; omega) | ((with_reducible apply i64_in); omega; omega) | ((with_reducible apply wrap8_in); omega; omega) | ((with_reducible apply u64_in); omega; omega) | with_reducible exact shr16 _ | with_reducible exact shr8 _ | with_reducible exact wrap8_mod _ | with_reducible exact shr32u _ | ((with_reducible apply and32u); omega; omega) | with_reducible exact wrap64_mod _))
       | ((with_reducible apply G.min2); rfl; rfl; rfl; (first | (apply if_pos; omega) | (apply if_neg; omega) | rfl)) | ((with_reducible apply G.max2); rfl; rfl; rfl; (first | (apply if_pos; omega) | (apply if_neg; omega) | rfl))
       | ((with_reducible apply G.pure); rfl; rfl; rfl; rfl; rfl)
       | ((with_reducible apply G.known true); rfl; rfl; rfl; (focus (first | rfl | (apply decide_eq_true; omega) | (apply decide_eq_false; omega) | (apply beq_iff_eq.2; omega) | (apply beq_eq_false_iff_ne.2; omega) | (apply bne_iff_ne.2; omega) | (apply bne_eq_false_iff_eq.2; omega) | (simp; done)))) | ((with_reducible apply G.known false); rfl; rfl; rfl; (focus (first | rfl | (apply decide_eq_true; omega) | (apply decide_eq_false; omega) | (apply beq_iff_eq.2; omega) | (apply beq_eq_false_iff_ne.2; omega) | (apply bne_iff_ne.2; omega) | (apply bne_eq_false_iff_eq.2; omega) | (simp; done))))
       | ((with_reducible apply G.split); rfl; rfl; rfl; all_goals (intro h; first | replace h := beq_t h | replace h := beq_f h | replace h := bne_t h | replace h := bne_f h | replace h := of_decide_eq_true h | replace h := of_decide_eq_false h | skip)))
    | with_reducible apply RG.done | with_reducible apply Q.tn | with_reducible apply Q.tr | with_reducible apply Q.te | with_reducible apply Q.bn | with_reducible apply Q.br | with_reducible apply Q.be | ((with_reducible apply Q.bx); decide) | with_reducible apply Q.tp | with_reducible apply Q.bp
    | with_reducible apply SW.seq | with_reducible apply SW.block | with_reducible apply SW.ret | with_reducible apply SW.skip | with_reducible apply SW.exit
    | ((with_reducible apply SW.cond1); rfl; (focus (first | rfl | (apply decide_eq_true; omega) | (apply decide_eq_false; omega) | (apply beq_iff_eq.2; omega) | (apply beq_eq_false_iff_ne.2; omega) | (apply bne_iff_ne.2; omega) | (apply bne_eq_false_iff_eq.2; omega) | (simp; done)))) | ((with_reducible apply SW.cond0); rfl; (focus (first | rfl | (apply decide_eq_true; omega) | (apply decide_eq_false; omega) | (apply beq_iff_eq.2; omega) | (apply beq_eq_false_iff_ne.2; omega) | (apply bne_iff_ne.2; omega) | (apply bne_eq_false_iff_eq.2; omega) | (simp; done))))
    | ((with_reducible apply SW.cond); rfl; all_goals (intro h; first | replace h := beq_t h | replace h := beq_f h | replace h := bne_t h | replace h := bne_f h | replace h := of_decide_eq_true h | replace h := of_decide_eq_false h | skip))
    | ((with_reducible apply SW.region0); kernel_rfl; rfl))
  all_goals ((first | refine Q.dret (.cons (.tmp rfl) .nil) ?_ | refine Q.dret (.cons (.cell rfl (by repeat (first | exact List.Mem.head _ | apply List.Mem.tail)) rfl) .nil) ?_ | refine Q.dret (.cons (.tmp rfl) (.cons (.tmp rfl) .nil)) ?_); first | (rw [nxt_0 h0]; rfl) | (rw [nxt_top h1]; rfl) | (rw [nxt_in h0 h1 (by rw [← heq]; exact h2) (by rw [← heq]; exact h3), ← heq]; rfl) | (rw [nxt_over (by omega)]; rfl))

theorem lv1 : lvl 3 10 25 5 = 6 := by unfold lvl sub; rfl
theorem lv2 : lvl 7 0 0 1 = 7 := by unfold lvl sub; rfl
theorem nx1 : nxt 3 10 25 5 = (30, true) := by unfold nxt lvl sub; rfl

set_option maxHeartbeats 4000000 in
set_option maxRecDepth 4000 in
theorem live_dc : DC Try.prog 12 #[] (.bool true) := by
  all_goals (try unfold RC)
  all_goals (try unfold DC)
  all_goals refine OC.of_sw Try.func12 rfl Try.ntmps12 (Nat.le_of_ble_eq_true rfl) fun C => ?_
  repeat' (first
    | ((with_reducible apply G.at); rfl; first
       | ((with_reducible apply G.move); rfl; rfl) | ((with_reducible apply G.assign); rfl; rfl)
       | ((with_reducible apply G.load0); rfl; rfl; (focus (repeat (first | exact List.Mem.head _ | assumption | apply List.Mem.tail | apply mem_oH))); rfl) | ((with_reducible apply G.load1); rfl; rfl; (focus (repeat (first | exact List.Mem.head _ | assumption | apply List.Mem.tail | apply mem_oH))); rfl)
       | ((with_reducible apply G.faddrh (k := 0)); rfl; rfl; rfl) | ((with_reducible apply G.faddrh (k := 1)); rfl; rfl; rfl) | ((with_reducible apply G.faddrh (k := 2)); rfl; rfl; rfl) | ((with_reducible apply G.faddrh (k := 3)); rfl; rfl; rfl) | ((with_reducible apply G.faddrh (k := 4)); rfl; rfl; rfl) | ((with_reducible apply G.faddrh (k := 5)); rfl; rfl; rfl) | ((with_reducible apply G.faddrh (k := 6)); rfl; rfl; rfl) | ((with_reducible apply G.faddrh (k := 7)); rfl; rfl; rfl)
       | ((with_reducible apply G.rcall (f := 10)); rfl; rfl; exact Try.call10; ((apply next_oc); (first | assumption | exact ⟨by decide, by decide⟩); (first | assumption | exact ⟨by decide, by decide⟩); (first | assumption | exact ⟨by decide, by decide⟩); (first | assumption | exact ⟨by decide, by decide⟩)); (focus (repeat (first | exact StOk.nil | (refine StOk.keep ?_ ?_; (focus ((repeat (first | exact List.Mem.head _ | assumption | apply List.Mem.tail | apply mem_oH)); done))) | refine StOk.gone (by kernel_rfl) ?_))))
       | ((with_reducible apply G.dcall (f := 15)); rfl; rfl; exact Try.call15; exact (level_dc _ _ _ _ (by exact ⟨by decide, by decide⟩) (by exact ⟨by decide, by decide⟩) (by exact ⟨by decide, by decide⟩) (by exact ⟨by decide, by decide⟩)))
       | ((with_reducible apply G.nilck); rfl; rfl) | ((with_reducible apply G.extract); rfl; rfl; rfl) | ((with_reducible apply G.len); rfl; rfl; rfl) | ((with_reducible apply G.pick1); rfl; rfl; rfl) | ((with_reducible apply G.pick0); rfl; rfl; rfl) | ((with_reducible apply G.unw); rfl) | ((with_reducible apply G.unw0); rfl)
       | ((with_reducible apply G.boxa); rfl; rfl; intro b) | ((with_reducible apply G.box); rfl; rfl; intro b) | ((with_reducible apply G.alloc); rfl; rfl; rfl; intro b)
       | ((with_reducible apply G.store); rfl; rfl; rfl; rfl; rfl; rfl; (focus (repeat (first | assumption | exact Rem.here | apply Rem.there | apply Rem.oH))); (exact Nat.le_of_ble_eq_true rfl); (focus (repeat (first | exact StOk.nil | (refine StOk.keep ?_ ?_; (focus ((repeat (first | exact List.Mem.head _ | assumption | apply List.Mem.tail | apply mem_oH)); done))) | refine StOk.gone (by kernel_rfl) ?_))); rfl)
       | ((with_reducible apply G.build); rfl; rfl; rfl) | ((with_reducible apply G.eqs); rfl; rfl; rfl; rfl; (kernel_rfl); (kernel_rfl)) | ((with_reducible apply G.nes); rfl; rfl; rfl; rfl; (kernel_rfl); (kernel_rfl))
       | ((with_reducible apply G.num); rfl; rfl; rfl; rfl; rfl; (first | ((with_reducible apply shl8); omega; omega) | ((with_reducible apply shl16); omega; omega) | ((with_reducible apply or8); omega; omega; omega; omega) | ((with_reducible apply or16); omega; omega; omega; omega) | ((with_reducible apply or24); omega; omega; omega; omega; omega; omega) | ((with_reducible apply i64_in); omega; omega) | ((with_reducible apply wrap8_in); omega; omega) | ((with_reducible apply u64_in); omega; omega) | with_reducible exact shr16 _ | with_reducible exact shr8 _ | with_reducible exact wrap8_mod _ | with_reducible exact shr32u _ | ((with_reducible apply and32u); omega; omega) | with_reducible exact wrap64_mod _))
       | ((with_reducible apply G.min2); rfl; rfl; rfl; (first | (apply if_pos; omega) | (apply if_neg; omega) | rfl)) | ((with_reducible apply G.max2); rfl; rfl; rfl; (first | (apply if_pos; omega) | (apply if_neg; omega) | rfl))
       | ((with_reducible apply G.pure); rfl; rfl; rfl; rfl; rfl)
       | ((with_reducible apply G.known true); rfl; rfl; rfl; (focus (first | rfl | (apply decide_eq_true; omega) | (apply decide_eq_false; omega) | (apply beq_iff_eq.2; omega) | (apply beq_eq_false_iff_ne.2; omega) | (apply bne_iff_ne.2; omega) | (apply bne_eq_false_iff_eq.2; omega) | (simp; done) | (rw [lv1]; done) | (rw [lv1]; rfl) | (rw [lv2]; done) | (rw [lv2]; rfl) | (rw [nx1]; done) | (rw [nx1]; rfl)))) | ((with_reducible apply G.known false); rfl; rfl; rfl; (focus (first | rfl | (apply decide_eq_true; omega) | (apply decide_eq_false; omega) | (apply beq_iff_eq.2; omega) | (apply beq_eq_false_iff_ne.2; omega) | (apply bne_iff_ne.2; omega) | (apply bne_eq_false_iff_eq.2; omega) | (simp; done) | (rw [lv1]; done) | (rw [lv1]; rfl) | (rw [lv2]; done) | (rw [lv2]; rfl) | (rw [nx1]; done) | (rw [nx1]; rfl))))
       | ((with_reducible apply G.split); rfl; rfl; rfl; all_goals (intro h; first | replace h := beq_t h | replace h := beq_f h | replace h := bne_t h | replace h := bne_f h | replace h := of_decide_eq_true h | replace h := of_decide_eq_false h | skip)))
    | with_reducible apply RG.done | with_reducible apply Q.tn | with_reducible apply Q.tr | with_reducible apply Q.te | with_reducible apply Q.bn | with_reducible apply Q.br | with_reducible apply Q.be | ((with_reducible apply Q.bx); decide) | with_reducible apply Q.tp | with_reducible apply Q.bp
    | with_reducible apply SW.seq | with_reducible apply SW.block | with_reducible apply SW.ret | with_reducible apply SW.skip | with_reducible apply SW.exit
    | ((with_reducible apply SW.cond1); rfl; (focus (first | rfl | (apply decide_eq_true; omega) | (apply decide_eq_false; omega) | (apply beq_iff_eq.2; omega) | (apply beq_eq_false_iff_ne.2; omega) | (apply bne_iff_ne.2; omega) | (apply bne_eq_false_iff_eq.2; omega) | (simp; done) | (rw [lv1]; done) | (rw [lv1]; rfl) | (rw [lv2]; done) | (rw [lv2]; rfl) | (rw [nx1]; done) | (rw [nx1]; rfl)))) | ((with_reducible apply SW.cond0); rfl; (focus (first | rfl | (apply decide_eq_true; omega) | (apply decide_eq_false; omega) | (apply beq_iff_eq.2; omega) | (apply beq_eq_false_iff_ne.2; omega) | (apply bne_iff_ne.2; omega) | (apply bne_eq_false_iff_eq.2; omega) | (simp; done) | (rw [lv1]; done) | (rw [lv1]; rfl) | (rw [lv2]; done) | (rw [lv2]; rfl) | (rw [nx1]; done) | (rw [nx1]; rfl))))
    | ((with_reducible apply SW.cond); rfl; all_goals (intro h; first | replace h := beq_t h | replace h := beq_f h | replace h := bne_t h | replace h := bne_f h | replace h := of_decide_eq_true h | replace h := of_decide_eq_false h | skip))
    | ((with_reducible apply SW.region0); kernel_rfl; rfl))
  all_goals ((first | refine Q.dret (.cons (.tmp rfl) .nil) ?_ | refine Q.dret (.cons (.cell rfl (by repeat (first | exact List.Mem.head _ | apply List.Mem.tail)) rfl) .nil) ?_ | refine Q.dret (.cons (.tmp rfl) (.cons (.tmp rfl) .nil)) ?_); first | rfl | (simp only [tupV]; rw [lv2]; done) | (simp only [tupV]; rw [lv2]; rfl))

theorem sub_mono {s n m : Int} (h : n ≤ m) : sub n s ≤ sub m s := by
  by_cases e : s ≤ n
  · rw [sub_le e, sub_le (by omega)]; omega
  · rw [sub_gt e]
    by_cases e' : s ≤ m
    · rw [sub_le e']; omega
    · rw [sub_gt e']; omega
theorem lvl_mono {b s n m p : Int} (hp : 0 ≤ p) (h : n ≤ m) : lvl b s n p ≤ lvl b s m p := by
  by_cases h0 : p = 0
  · rw [lvl_0 h0, lvl_0 h0]; omega
  · have := Int.ediv_le_ediv (c := p) (by omega) (sub_mono (s := s) h)
    by_cases h1 : 255 - b ≤ sub n s / p <;> by_cases h2 : 255 - b ≤ sub m s / p
    · rw [lvl_top h0 h1, lvl_top h0 h2]; omega
    · omega
    · rw [lvl_in h0 h1, lvl_top h0 h2]; omega
    · rw [lvl_in h0 h1, lvl_in h0 h2]; omega
theorem lvl_base {b c s n p : Int} (h : b ≤ c) (hc : c ≤ 255) : lvl b s n p ≤ lvl c s n p := by
  by_cases h0 : p = 0
  · rw [lvl_0 h0, lvl_0 h0]; omega
  · by_cases h1 : 255 - b ≤ sub n s / p <;> by_cases h2 : 255 - c ≤ sub n s / p
    · rw [lvl_top h0 h1, lvl_top h0 h2]; omega
    · omega
    · rw [lvl_in h0 h1, lvl_top h0 h2]; omega
    · rw [lvl_in h0 h1, lvl_in h0 h2]; omega
theorem per_same {s n m p : Int} (hp : 0 < p) (h : n ≤ m) (h2 : m < s + (sub n s / p + 1) * p) (hm : 0 ≤ (sub n s / p + 1) * p) : sub m s / p = sub n s / p := by
  have h3 := Int.ediv_le_ediv hp (sub_mono (s := s) h)
  have h4 : sub m s < (sub n s / p + 1) * p := by
    by_cases e : s ≤ m
    · rw [sub_le e]; omega
    · rw [sub_gt e]
      have : 0 ≤ sub n s := by
        by_cases e' : s ≤ n
        · rw [sub_le e']; omega
        · rw [sub_gt e']; omega
      have h5 := Int.lt_ediv_add_one_mul_self (sub n s) hp
      omega
  have h6 := Int.ediv_lt_of_lt_mul hp h4
  omega
theorem lvl_same {b s n m p : Int} (hp : 0 < p) (h : n ≤ m) (h2 : m < s + (sub n s / p + 1) * p) (hm : 0 ≤ (sub n s / p + 1) * p) : lvl b s m p = lvl b s n p := by
  have e := per_same hp h h2 hm
  have h0 : ¬ p = 0 := by omega
  by_cases h1 : 255 - b ≤ sub n s / p
  · rw [lvl_top h0 h1, lvl_top h0 (by rw [e]; exact h1)]
  · rw [lvl_in h0 h1, lvl_in h0 (by rw [e]; exact h1), e]
theorem lvl_next {b s n p : Int} (hs : U64 s) (h0 : ¬ p = 0) (h1 : ¬ 255 ≤ lvl b s n p) (hm : 0 ≤ (sub n s / p + 1) * p) : lvl b s (s + (sub n s / p + 1) * p) p = lvl b s n p + 1 := by
  obtain ⟨g1, g2⟩ := per_lt h0 h1
  have e : sub (s + (sub n s / p + 1) * p) s = (sub n s / p + 1) * p := by rw [sub_le (by omega)]; omega
  have e2 : sub (s + (sub n s / p + 1) * p) s / p = sub n s / p + 1 := by rw [e, Int.mul_ediv_cancel _ h0]
  by_cases h : 255 - b ≤ sub (s + (sub n s / p + 1) * p) s / p
  · rw [lvl_top (n := s + (sub n s / p + 1) * p) h0 h]; omega
  · rw [lvl_in (n := s + (sub n s / p + 1) * p) h0 h, e2]; omega
theorem nxt_cases {b s n p : Int} (hb : U8 b) (hs : U64 s) (hn : U64 n) (hp : U64 p) : nxt b s n p = (0, false) ∨ ∃ t, nxt b s n p = (t, true) ∧ n < t ∧ U64 t ∧ lvl b s n p < 255 ∧ lvl b s t p = lvl b s n p + 1 ∧ ∀ m, n ≤ m → m < t → lvl b s m p = lvl b s n p := by
  by_cases h0 : p = 0
  · exact .inl (nxt_0 h0)
  by_cases h1 : 255 ≤ lvl b s n p
  · exact .inl (nxt_top h1)
  by_cases h : (sub n s / p + 1) * p < 18446744073709551616 ∧ (sub n s / p + 1) * p ≤ 18446744073709551615 - s
  · refine .inr ⟨_, nxt_in h0 h1 h.1 h.2, ?_⟩
    obtain ⟨g1, g2⟩ := per_lt h0 h1
    obtain ⟨r1, r2⟩ := per_rng hs hn hp
    obtain ⟨f1, f2, f3, f4, f5, f6⟩ := ref_facts (b := b) hs hn hp h0 (sub n s / p + 1) (by omega) (by omega)
    have h4 := f4 rfl
    obtain ⟨s1, s2⟩ := hs
    obtain ⟨p1, p2⟩ := hp
    exact ⟨h4, ⟨by omega, by omega⟩, by omega, lvl_next ⟨s1, s2⟩ h0 h1 f1, fun m h5 h6 => lvl_same (by omega) h5 h6 f1⟩
  · exact .inl (nxt_over h)
theorem lvl_ahead {b s n p : Int} (hb : U8 b) (hp : 0 ≤ p) (h : n ≤ s) : lvl b s n p = b := by
  by_cases h0 : p = 0
  · exact lvl_0 h0
  · have e : sub n s = 0 := sub_ge (by omega)
    obtain ⟨b1, b2⟩ := hb
    by_cases h1 : 255 - b ≤ sub n s / p
    · rw [lvl_top h0 h1]; rw [e] at h1; simp at h1; omega
    · rw [lvl_in h0 h1, e]; simp
theorem lvl_255 {s n p : Int} (hs : U64 s) (hn : U64 n) (hp : U64 p) : lvl 255 s n p = 255 := by
  have := lvl_rng (b := 255) ⟨by decide, by decide⟩ hs hn hp
  obtain ⟨⟨h1, h2⟩, h3⟩ := this
  omega
theorem lvl_steps {b s k p : Int} (h0 : 0 < p) (hk : 0 ≤ k) : lvl b s (s + k * p) p = if 255 < b + k then 255 else b + k := by
  have hkp : 0 ≤ k * p := Int.mul_nonneg hk (by omega)
  have e : sub (s + k * p) s / p = k := by rw [sub_le (by omega)]; rw [show s + k * p - s = k * p by omega, Int.mul_ediv_cancel _ (by omega)]
  by_cases h1 : 255 - b ≤ sub (s + k * p) s / p
  · rw [lvl_top (by omega) h1]; rw [e] at h1
    split <;> omega
  · rw [lvl_in (by omega) h1, e]; rw [e] at h1
    rw [if_neg (by omega)]
theorem lvl_shift {b s n p m : Int} : lvl b (s + m) (n + m) p = lvl b s n p := by
  have e : sub (n + m) (s + m) = sub n s := by
    by_cases h : s ≤ n
    · rw [sub_le h, sub_le (by omega)]; omega
    · rw [sub_gt h, sub_gt (by omega)]
  unfold lvl; rw [e]

end Go.Proofs.Ytbickmaflajpdaa
