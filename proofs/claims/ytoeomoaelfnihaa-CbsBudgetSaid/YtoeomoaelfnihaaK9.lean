/- Keys, and servers of one. -/
import Derived.Test.YtoeomoaelfnihaaK8
namespace Go.Proofs.Ytoeomoaelfnihaa
open Go Go.RowKit Bw
set_option linter.unusedSimpArgs false
set_option linter.unusedVariables false
attribute [local irreducible] OC RC DC XC

set_option maxHeartbeats 4000000 in
set_option maxRecDepth 4000 in
theorem dead_dc (l : Int) : DC Try.prog 29 #[.int .u64 l] (.agg #[.bool true, .int .u64 l, .int .u8 0]) := by
  all_goals (try unfold RC)
  all_goals (try unfold DC)
  all_goals refine OC.of_sw Try.func29 rfl Try.ntmps29 (Nat.le_of_ble_eq_true rfl) fun C => ?_
  repeat' (first
    | ((with_reducible apply G.at); rfl; first
       | ((with_reducible apply G.move); rfl; rfl) | ((with_reducible apply G.assign); rfl; rfl)
       | ((with_reducible apply G.load0); rfl; rfl; (focus (repeat (first | exact List.Mem.head _ | assumption | apply List.Mem.tail | apply mem_oH))); rfl) | ((with_reducible apply G.load1); rfl; rfl; (focus (repeat (first | exact List.Mem.head _ | assumption | apply List.Mem.tail | apply mem_oH))); rfl)
       | ((with_reducible apply G.faddrh (k := 0)); rfl; rfl; rfl) | ((with_reducible apply G.faddrh (k := 1)); rfl; rfl; rfl) | ((with_reducible apply G.faddrh (k := 2)); rfl; rfl; rfl) | ((with_reducible apply G.faddrh (k := 3)); rfl; rfl; rfl) | ((with_reducible apply G.faddrh (k := 4)); rfl; rfl; rfl) | ((with_reducible apply G.faddrh (k := 5)); rfl; rfl; rfl) | ((with_reducible apply G.faddrh (k := 6)); rfl; rfl; rfl) | ((with_reducible apply G.faddrh (k := 7)); rfl; rfl; rfl)
       | ((with_reducible apply G.nilck); rfl; rfl) | ((with_reducible apply G.extract); rfl; rfl; rfl) | ((with_reducible apply G.len); rfl; rfl; rfl) | ((with_reducible apply G.pick1); rfl; rfl; rfl) | ((with_reducible apply G.pick0); rfl; rfl; rfl) | ((with_reducible apply G.unw); rfl) | ((with_reducible apply G.unw0); rfl)
       | ((with_reducible apply G.boxa); rfl; rfl; intro b) | ((with_reducible apply G.box); rfl; rfl; intro b) | ((with_reducible apply G.alloc); rfl; rfl; rfl; intro b)
       | ((with_reducible apply G.store); rfl; rfl; rfl; rfl; rfl; rfl; (focus (repeat (first | assumption | exact Rem.here | apply Rem.there | apply Rem.oH))); (exact Nat.le_of_ble_eq_true rfl); (focus (repeat (first | exact StOk.nil | (refine StOk.keep ?_ ?_; (focus ((repeat (first | exact List.Mem.head _ | assumption | apply List.Mem.tail | apply mem_oH)); done))) | refine StOk.gone (by kernel_rfl) ?_))); rfl)
       | ((with_reducible apply G.build); rfl; rfl; rfl) | ((with_reducible apply G.eqs); rfl; rfl; rfl; rfl; (kernel_rfl); (kernel_rfl)) | ((with_reducible apply G.nes); rfl; rfl; rfl; rfl; (kernel_rfl); (kernel_rfl))
       | ((with_reducible apply G.num); rfl; rfl; rfl; rfl; rfl; (first | ((with_reducible apply shl8); omega; omega) | ((with_reducible apply shl16); omega; omega) | ((with_reducible apply or8); omega; omega; omega; omega) | ((with_reducible apply or16); omega; omega; omega; omega) | ((with_reducible apply or24); omega; omega; omega; omega; omega; omega) | ((with_reducible apply i64_in); omega; omega) | ((with_reducible apply wrap8_in); omega; omega) | ((with_reducible apply u64_in); omega; omega) | with_reducible exact shr16 _ | with_reducible exact shr8 _ | with_reducible exact wrap8_mod _ | with_reducible exact shr32u _ | ((with_reducible apply and32u); omega; omega) | with_reducible exact wrap64_mod _))
       | ((with_reducible apply G.min2); rfl; rfl; rfl; (first | (apply if_pos; omega) | (apply if_neg; omega) | rfl)) | ((with_reducible apply G.max2); rfl; rfl; rfl; (first | (apply if_pos; omega) | (apply if_neg; omega) | rfl))
       | ((with_reducible apply G.pure); rfl; rfl; rfl; rfl; rfl)
       | ((with_reducible apply G.known true); rfl; rfl; rfl; (focus (first | with_reducible rfl | ((with_reducible apply decide_eq_true); omega) | ((with_reducible apply decide_eq_false); omega) | ((with_reducible apply beq_iff_eq.2); omega) | ((with_reducible apply beq_eq_false_iff_ne.2); omega) | ((with_reducible apply bne_iff_ne.2); omega) | ((with_reducible apply bne_eq_false_iff_eq.2); omega) | (simp; done)))) | ((with_reducible apply G.known false); rfl; rfl; rfl; (focus (first | with_reducible rfl | ((with_reducible apply decide_eq_true); omega) | ((with_reducible apply decide_eq_false); omega) | ((with_reducible apply beq_iff_eq.2); omega) | ((with_reducible apply beq_eq_false_iff_ne.2); omega) | ((with_reducible apply bne_iff_ne.2); omega) | ((with_reducible apply bne_eq_false_iff_eq.2); omega) | (simp; done))))
       | ((with_reducible apply G.split); rfl; rfl; rfl; all_goals (intro h; first | replace h := beq_t h | replace h := beq_f h | replace h := bne_t h | replace h := bne_f h | replace h := of_decide_eq_true h | replace h := of_decide_eq_false h | skip)))
    | with_reducible apply RG.done | with_reducible apply Q.tn | with_reducible apply Q.tr | with_reducible apply Q.te | with_reducible apply Q.bn | with_reducible apply Q.br | with_reducible apply Q.be | ((with_reducible apply Q.bx); decide) | with_reducible apply Q.tp | with_reducible apply Q.bp
    | with_reducible apply SW.seq | with_reducible apply SW.block | with_reducible apply SW.ret | with_reducible apply SW.skip | with_reducible apply SW.exit
    | ((with_reducible apply SW.cond1); rfl; (focus (first | with_reducible rfl | ((with_reducible apply decide_eq_true); omega) | ((with_reducible apply decide_eq_false); omega) | ((with_reducible apply beq_iff_eq.2); omega) | ((with_reducible apply beq_eq_false_iff_ne.2); omega) | ((with_reducible apply bne_iff_ne.2); omega) | ((with_reducible apply bne_eq_false_iff_eq.2); omega) | (simp; done)))) | ((with_reducible apply SW.cond0); rfl; (focus (first | with_reducible rfl | ((with_reducible apply decide_eq_true); omega) | ((with_reducible apply decide_eq_false); omega) | ((with_reducible apply beq_iff_eq.2); omega) | ((with_reducible apply beq_eq_false_iff_ne.2); omega) | ((with_reducible apply bne_iff_ne.2); omega) | ((with_reducible apply bne_eq_false_iff_eq.2); omega) | (simp; done))))
    | ((with_reducible apply SW.cond); rfl; all_goals (intro h; first | replace h := beq_t h | replace h := beq_f h | replace h := bne_t h | replace h := bne_f h | replace h := of_decide_eq_true h | replace h := of_decide_eq_false h | skip))
    | ((with_reducible apply SW.region0); kernel_rfl; rfl))
  all_goals ((first | refine Q.dret (.cons (.tmp rfl) .nil) ?_ | refine Q.dret (.cons (.cell rfl (by repeat (first | exact List.Mem.head _ | apply List.Mem.tail)) rfl) .nil) ?_ | refine Q.dret (.cons (.tmp rfl) (.cons (.tmp rfl) .nil)) ?_); rfl)
set_option maxHeartbeats 4000000 in
set_option maxRecDepth 4000 in
theorem fixed_dc (l : Int) : DC Try.prog 31 #[.int .u8 l] (.agg #[.bool false, .int .u64 0, .int .u8 l]) := by
  all_goals (try unfold RC)
  all_goals (try unfold DC)
  all_goals refine OC.of_sw Try.func31 rfl Try.ntmps31 (Nat.le_of_ble_eq_true rfl) fun C => ?_
  repeat' (first
    | ((with_reducible apply G.at); rfl; first
       | ((with_reducible apply G.move); rfl; rfl) | ((with_reducible apply G.assign); rfl; rfl)
       | ((with_reducible apply G.load0); rfl; rfl; (focus (repeat (first | exact List.Mem.head _ | assumption | apply List.Mem.tail | apply mem_oH))); rfl) | ((with_reducible apply G.load1); rfl; rfl; (focus (repeat (first | exact List.Mem.head _ | assumption | apply List.Mem.tail | apply mem_oH))); rfl)
       | ((with_reducible apply G.faddrh (k := 0)); rfl; rfl; rfl) | ((with_reducible apply G.faddrh (k := 1)); rfl; rfl; rfl) | ((with_reducible apply G.faddrh (k := 2)); rfl; rfl; rfl) | ((with_reducible apply G.faddrh (k := 3)); rfl; rfl; rfl) | ((with_reducible apply G.faddrh (k := 4)); rfl; rfl; rfl) | ((with_reducible apply G.faddrh (k := 5)); rfl; rfl; rfl) | ((with_reducible apply G.faddrh (k := 6)); rfl; rfl; rfl) | ((with_reducible apply G.faddrh (k := 7)); rfl; rfl; rfl)
       | ((with_reducible apply G.nilck); rfl; rfl) | ((with_reducible apply G.extract); rfl; rfl; rfl) | ((with_reducible apply G.len); rfl; rfl; rfl) | ((with_reducible apply G.pick1); rfl; rfl; rfl) | ((with_reducible apply G.pick0); rfl; rfl; rfl) | ((with_reducible apply G.unw); rfl) | ((with_reducible apply G.unw0); rfl)
       | ((with_reducible apply G.boxa); rfl; rfl; intro b) | ((with_reducible apply G.box); rfl; rfl; intro b) | ((with_reducible apply G.alloc); rfl; rfl; rfl; intro b)
       | ((with_reducible apply G.store); rfl; rfl; rfl; rfl; rfl; rfl; (focus (repeat (first | assumption | exact Rem.here | apply Rem.there | apply Rem.oH))); (exact Nat.le_of_ble_eq_true rfl); (focus (repeat (first | exact StOk.nil | (refine StOk.keep ?_ ?_; (focus ((repeat (first | exact List.Mem.head _ | assumption | apply List.Mem.tail | apply mem_oH)); done))) | refine StOk.gone (by kernel_rfl) ?_))); rfl)
       | ((with_reducible apply G.build); rfl; rfl; rfl) | ((with_reducible apply G.eqs); rfl; rfl; rfl; rfl; (kernel_rfl); (kernel_rfl)) | ((with_reducible apply G.nes); rfl; rfl; rfl; rfl; (kernel_rfl); (kernel_rfl))
       | ((with_reducible apply G.num); rfl; rfl; rfl; rfl; rfl; (first | ((with_reducible apply shl8); omega; omega) | ((with_reducible apply shl16); omega; omega) | ((with_reducible apply or8); omega; omega; omega; omega) | ((with_reducible apply or16); omega; omega; omega; omega) | ((with_reducible apply or24); omega; omega; omega; omega; omega; omega) | ((with_reducible apply i64_in); omega; omega) | ((with_reducible apply wrap8_in); omega; omega) | ((with_reducible apply u64_in); omega; omega) | with_reducible exact shr16 _ | with_reducible exact shr8 _ | with_reducible exact wrap8_mod _ | with_reducible exact shr32u _ | ((with_reducible apply and32u); omega; omega) | with_reducible exact wrap64_mod _))
       | ((with_reducible apply G.min2); rfl; rfl; rfl; (first | (apply if_pos; omega) | (apply if_neg; omega) | rfl)) | ((with_reducible apply G.max2); rfl; rfl; rfl; (first | (apply if_pos; omega) | (apply if_neg; omega) | rfl))
       | ((with_reducible apply G.pure); rfl; rfl; rfl; rfl; rfl)
       | ((with_reducible apply G.known true); rfl; rfl; rfl; (focus (first | with_reducible rfl | ((with_reducible apply decide_eq_true); omega) | ((with_reducible apply decide_eq_false); omega) | ((with_reducible apply beq_iff_eq.2); omega) | ((with_reducible apply beq_eq_false_iff_ne.2); omega) | ((with_reducible apply bne_iff_ne.2); omega) | ((with_reducible apply bne_eq_false_iff_eq.2); omega) | (simp; done)))) | ((with_reducible apply G.known false); rfl; rfl; rfl; (focus (first | with_reducible rfl | ((with_reducible apply decide_eq_true); omega) | ((with_reducible apply decide_eq_false); omega) | ((with_reducible apply beq_iff_eq.2); omega) | ((with_reducible apply beq_eq_false_iff_ne.2); omega) | ((with_reducible apply bne_iff_ne.2); omega) | ((with_reducible apply bne_eq_false_iff_eq.2); omega) | (simp; done))))
       | ((with_reducible apply G.split); rfl; rfl; rfl; all_goals (intro h; first | replace h := beq_t h | replace h := beq_f h | replace h := bne_t h | replace h := bne_f h | replace h := of_decide_eq_true h | replace h := of_decide_eq_false h | skip)))
    | with_reducible apply RG.done | with_reducible apply Q.tn | with_reducible apply Q.tr | with_reducible apply Q.te | with_reducible apply Q.bn | with_reducible apply Q.br | with_reducible apply Q.be | ((with_reducible apply Q.bx); decide) | with_reducible apply Q.tp | with_reducible apply Q.bp
    | with_reducible apply SW.seq | with_reducible apply SW.block | with_reducible apply SW.ret | with_reducible apply SW.skip | with_reducible apply SW.exit
    | ((with_reducible apply SW.cond1); rfl; (focus (first | with_reducible rfl | ((with_reducible apply decide_eq_true); omega) | ((with_reducible apply decide_eq_false); omega) | ((with_reducible apply beq_iff_eq.2); omega) | ((with_reducible apply beq_eq_false_iff_ne.2); omega) | ((with_reducible apply bne_iff_ne.2); omega) | ((with_reducible apply bne_eq_false_iff_eq.2); omega) | (simp; done)))) | ((with_reducible apply SW.cond0); rfl; (focus (first | with_reducible rfl | ((with_reducible apply decide_eq_true); omega) | ((with_reducible apply decide_eq_false); omega) | ((with_reducible apply beq_iff_eq.2); omega) | ((with_reducible apply beq_eq_false_iff_ne.2); omega) | ((with_reducible apply bne_iff_ne.2); omega) | ((with_reducible apply bne_eq_false_iff_eq.2); omega) | (simp; done))))
    | ((with_reducible apply SW.cond); rfl; all_goals (intro h; first | replace h := beq_t h | replace h := beq_f h | replace h := bne_t h | replace h := bne_f h | replace h := of_decide_eq_true h | replace h := of_decide_eq_false h | skip))
    | ((with_reducible apply SW.region0); kernel_rfl; rfl))
  all_goals ((first | refine Q.dret (.cons (.tmp rfl) .nil) ?_ | refine Q.dret (.cons (.cell rfl (by repeat (first | exact List.Mem.head _ | apply List.Mem.tail)) rfl) .nil) ?_ | refine Q.dret (.cons (.tmp rfl) (.cons (.tmp rfl) .nil)) ?_); rfl)
set_option maxHeartbeats 4000000 in
set_option maxRecDepth 4000 in
theorem above_dd (x y : Int) : DC Try.prog 30 #[.agg #[.bool true, .int .u64 x, .int .u8 0], .agg #[.bool true, .int .u64 y, .int .u8 0]] (.bool (decide (x < y))) := by
  all_goals (try unfold RC)
  all_goals (try unfold DC)
  all_goals refine OC.of_sw Try.func30 rfl Try.ntmps30 (Nat.le_of_ble_eq_true rfl) fun C => ?_
  repeat' (first
    | ((with_reducible apply G.at); rfl; first
       | ((with_reducible apply G.move); rfl; rfl) | ((with_reducible apply G.assign); rfl; rfl)
       | ((with_reducible apply G.load0); rfl; rfl; (focus (repeat (first | exact List.Mem.head _ | assumption | apply List.Mem.tail | apply mem_oH))); rfl) | ((with_reducible apply G.load1); rfl; rfl; (focus (repeat (first | exact List.Mem.head _ | assumption | apply List.Mem.tail | apply mem_oH))); rfl)
       | ((with_reducible apply G.faddrh (k := 0)); rfl; rfl; rfl) | ((with_reducible apply G.faddrh (k := 1)); rfl; rfl; rfl) | ((with_reducible apply G.faddrh (k := 2)); rfl; rfl; rfl) | ((with_reducible apply G.faddrh (k := 3)); rfl; rfl; rfl) | ((with_reducible apply G.faddrh (k := 4)); rfl; rfl; rfl) | ((with_reducible apply G.faddrh (k := 5)); rfl; rfl; rfl) | ((with_reducible apply G.faddrh (k := 6)); rfl; rfl; rfl) | ((with_reducible apply G.faddrh (k := 7)); rfl; rfl; rfl)
       | ((with_reducible apply G.nilck); rfl; rfl) | ((with_reducible apply G.extract); rfl; rfl; rfl) | ((with_reducible apply G.len); rfl; rfl; rfl) | ((with_reducible apply G.pick1); rfl; rfl; rfl) | ((with_reducible apply G.pick0); rfl; rfl; rfl) | ((with_reducible apply G.unw); rfl) | ((with_reducible apply G.unw0); rfl)
       | ((with_reducible apply G.boxa); rfl; rfl; intro b) | ((with_reducible apply G.box); rfl; rfl; intro b) | ((with_reducible apply G.alloc); rfl; rfl; rfl; intro b)
       | ((with_reducible apply G.store); rfl; rfl; rfl; rfl; rfl; rfl; (focus (repeat (first | assumption | exact Rem.here | apply Rem.there | apply Rem.oH))); (exact Nat.le_of_ble_eq_true rfl); (focus (repeat (first | exact StOk.nil | (refine StOk.keep ?_ ?_; (focus ((repeat (first | exact List.Mem.head _ | assumption | apply List.Mem.tail | apply mem_oH)); done))) | refine StOk.gone (by kernel_rfl) ?_))); rfl)
       | ((with_reducible apply G.build); rfl; rfl; rfl) | ((with_reducible apply G.eqs); rfl; rfl; rfl; rfl; (kernel_rfl); (kernel_rfl)) | ((with_reducible apply G.nes); rfl; rfl; rfl; rfl; (kernel_rfl); (kernel_rfl))
       | ((with_reducible apply G.num); rfl; rfl; rfl; rfl; rfl; (first | ((with_reducible apply shl8); omega; omega) | ((with_reducible apply shl16); omega; omega) | ((with_reducible apply or8); omega; omega; omega; omega) | ((with_reducible apply or16); omega; omega; omega; omega) | ((with_reducible apply or24); omega; omega; omega; omega; omega; omega) | ((with_reducible apply i64_in); omega; omega) | ((with_reducible apply wrap8_in); omega; omega) | ((with_reducible apply u64_in); omega; omega) | with_reducible exact shr16 _ | with_reducible exact shr8 _ | with_reducible exact wrap8_mod _ | with_reducible exact shr32u _ | ((with_reducible apply and32u); omega; omega) | with_reducible exact wrap64_mod _))
       | ((with_reducible apply G.min2); rfl; rfl; rfl; (first | (apply if_pos; omega) | (apply if_neg; omega) | rfl)) | ((with_reducible apply G.max2); rfl; rfl; rfl; (first | (apply if_pos; omega) | (apply if_neg; omega) | rfl))
       | ((with_reducible apply G.pure); rfl; rfl; rfl; rfl; rfl)
       | ((with_reducible apply G.known true); rfl; rfl; rfl; (focus (first | with_reducible rfl | ((with_reducible apply decide_eq_true); omega) | ((with_reducible apply decide_eq_false); omega) | ((with_reducible apply beq_iff_eq.2); omega) | ((with_reducible apply beq_eq_false_iff_ne.2); omega) | ((with_reducible apply bne_iff_ne.2); omega) | ((with_reducible apply bne_eq_false_iff_eq.2); omega) | (simp; done)))) | ((with_reducible apply G.known false); rfl; rfl; rfl; (focus (first | with_reducible rfl | ((with_reducible apply decide_eq_true); omega) | ((with_reducible apply decide_eq_false); omega) | ((with_reducible apply beq_iff_eq.2); omega) | ((with_reducible apply beq_eq_false_iff_ne.2); omega) | ((with_reducible apply bne_iff_ne.2); omega) | ((with_reducible apply bne_eq_false_iff_eq.2); omega) | (simp; done))))
       | ((with_reducible apply G.split); rfl; rfl; rfl; all_goals (intro h; first | replace h := beq_t h | replace h := beq_f h | replace h := bne_t h | replace h := bne_f h | replace h := of_decide_eq_true h | replace h := of_decide_eq_false h | skip)))
    | with_reducible apply RG.done | with_reducible apply Q.tn | with_reducible apply Q.tr | with_reducible apply Q.te | with_reducible apply Q.bn | with_reducible apply Q.br | with_reducible apply Q.be | ((with_reducible apply Q.bx); decide) | with_reducible apply Q.tp | with_reducible apply Q.bp
    | with_reducible apply SW.seq | with_reducible apply SW.block | with_reducible apply SW.ret | with_reducible apply SW.skip | with_reducible apply SW.exit
    | ((with_reducible apply SW.cond1); rfl; (focus (first | with_reducible rfl | ((with_reducible apply decide_eq_true); omega) | ((with_reducible apply decide_eq_false); omega) | ((with_reducible apply beq_iff_eq.2); omega) | ((with_reducible apply beq_eq_false_iff_ne.2); omega) | ((with_reducible apply bne_iff_ne.2); omega) | ((with_reducible apply bne_eq_false_iff_eq.2); omega) | (simp; done)))) | ((with_reducible apply SW.cond0); rfl; (focus (first | with_reducible rfl | ((with_reducible apply decide_eq_true); omega) | ((with_reducible apply decide_eq_false); omega) | ((with_reducible apply beq_iff_eq.2); omega) | ((with_reducible apply beq_eq_false_iff_ne.2); omega) | ((with_reducible apply bne_iff_ne.2); omega) | ((with_reducible apply bne_eq_false_iff_eq.2); omega) | (simp; done))))
    | ((with_reducible apply SW.cond); rfl; all_goals (intro h; first | replace h := beq_t h | replace h := beq_f h | replace h := bne_t h | replace h := bne_f h | replace h := of_decide_eq_true h | replace h := of_decide_eq_false h | skip))
    | ((with_reducible apply SW.region0); kernel_rfl; rfl))
  all_goals ((first | refine Q.dret (.cons (.tmp rfl) .nil) ?_ | refine Q.dret (.cons (.cell rfl (by repeat (first | exact List.Mem.head _ | apply List.Mem.tail)) rfl) .nil) ?_ | refine Q.dret (.cons (.tmp rfl) (.cons (.tmp rfl) .nil)) ?_); first | rfl | (simp [tupV]; done) | (simp_all [tupV]; done))
set_option maxHeartbeats 4000000 in
set_option maxRecDepth 4000 in
theorem above_df (x l : Int) : DC Try.prog 30 #[.agg #[.bool true, .int .u64 x, .int .u8 0], .agg #[.bool false, .int .u64 0, .int .u8 l]] (.bool true) := by
  all_goals (try unfold RC)
  all_goals (try unfold DC)
  all_goals refine OC.of_sw Try.func30 rfl Try.ntmps30 (Nat.le_of_ble_eq_true rfl) fun C => ?_
  repeat' (first
    | ((with_reducible apply G.at); rfl; first
       | ((with_reducible apply G.move); rfl; rfl) | ((with_reducible apply G.assign); rfl; rfl)
       | ((with_reducible apply G.load0); rfl; rfl; (focus (repeat (first | exact List.Mem.head _ | assumption | apply List.Mem.tail | apply mem_oH))); rfl) | ((with_reducible apply G.load1); rfl; rfl; (focus (repeat (first | exact List.Mem.head _ | assumption | apply List.Mem.tail | apply mem_oH))); rfl)
       | ((with_reducible apply G.faddrh (k := 0)); rfl; rfl; rfl) | ((with_reducible apply G.faddrh (k := 1)); rfl; rfl; rfl) | ((with_reducible apply G.faddrh (k := 2)); rfl; rfl; rfl) | ((with_reducible apply G.faddrh (k := 3)); rfl; rfl; rfl) | ((with_reducible apply G.faddrh (k := 4)); rfl; rfl; rfl) | ((with_reducible apply G.faddrh (k := 5)); rfl; rfl; rfl) | ((with_reducible apply G.faddrh (k := 6)); rfl; rfl; rfl) | ((with_reducible apply G.faddrh (k := 7)); rfl; rfl; rfl)
       | ((with_reducible apply G.nilck); rfl; rfl) | ((with_reducible apply G.extract); rfl; rfl; rfl) | ((with_reducible apply G.len); rfl; rfl; rfl) | ((with_reducible apply G.pick1); rfl; rfl; rfl) | ((with_reducible apply G.pick0); rfl; rfl; rfl) | ((with_reducible apply G.unw); rfl) | ((with_reducible apply G.unw0); rfl)
       | ((with_reducible apply G.boxa); rfl; rfl; intro b) | ((with_reducible apply G.box); rfl; rfl; intro b) | ((with_reducible apply G.alloc); rfl; rfl; rfl; intro b)
       | ((with_reducible apply G.store); rfl; rfl; rfl; rfl; rfl; rfl; (focus (repeat (first | assumption | exact Rem.here | apply Rem.there | apply Rem.oH))); (exact Nat.le_of_ble_eq_true rfl); (focus (repeat (first | exact StOk.nil | (refine StOk.keep ?_ ?_; (focus ((repeat (first | exact List.Mem.head _ | assumption | apply List.Mem.tail | apply mem_oH)); done))) | refine StOk.gone (by kernel_rfl) ?_))); rfl)
       | ((with_reducible apply G.build); rfl; rfl; rfl) | ((with_reducible apply G.eqs); rfl; rfl; rfl; rfl; (kernel_rfl); (kernel_rfl)) | ((with_reducible apply G.nes); rfl; rfl; rfl; rfl; (kernel_rfl); (kernel_rfl))
       | ((with_reducible apply G.num); rfl; rfl; rfl; rfl; rfl; (first | ((with_reducible apply shl8); omega; omega) | ((with_reducible apply shl16); omega; omega) | ((with_reducible apply or8); omega; omega; omega; omega) | ((with_reducible apply or16); omega; omega; omega; omega) | ((with_reducible apply or24); omega; omega; omega; omega; omega; omega) | ((with_reducible apply i64_in); omega; omega) | ((with_reducible apply wrap8_in); omega; omega) | ((with_reducible apply u64_in); omega; omega) | with_reducible exact shr16 _ | with_reducible exact shr8 _ | with_reducible exact wrap8_mod _ | with_reducible exact shr32u _ | ((with_reducible apply and32u); omega; omega) | with_reducible exact wrap64_mod _))
       | ((with_reducible apply G.min2); rfl; rfl; rfl; (first | (apply if_pos; omega) | (apply if_neg; omega) | rfl)) | ((with_reducible apply G.max2); rfl; rfl; rfl; (first | (apply if_pos; omega) | (apply if_neg; omega) | rfl))
       | ((with_reducible apply G.pure); rfl; rfl; rfl; rfl; rfl)
       | ((with_reducible apply G.known true); rfl; rfl; rfl; (focus (first | with_reducible rfl | ((with_reducible apply decide_eq_true); omega) | ((with_reducible apply decide_eq_false); omega) | ((with_reducible apply beq_iff_eq.2); omega) | ((with_reducible apply beq_eq_false_iff_ne.2); omega) | ((with_reducible apply bne_iff_ne.2); omega) | ((with_reducible apply bne_eq_false_iff_eq.2); omega) | (simp; done)))) | ((with_reducible apply G.known false); rfl; rfl; rfl; (focus (first | with_reducible rfl | ((with_reducible apply decide_eq_true); omega) | ((with_reducible apply decide_eq_false); omega) | ((with_reducible apply beq_iff_eq.2); omega) | ((with_reducible apply beq_eq_false_iff_ne.2); omega) | ((with_reducible apply bne_iff_ne.2); omega) | ((with_reducible apply bne_eq_false_iff_eq.2); omega) | (simp; done))))
       | ((with_reducible apply G.split); rfl; rfl; rfl; all_goals (intro h; first | replace h := beq_t h | replace h := beq_f h | replace h := bne_t h | replace h := bne_f h | replace h := of_decide_eq_true h | replace h := of_decide_eq_false h | skip)))
    | with_reducible apply RG.done | with_reducible apply Q.tn | with_reducible apply Q.tr | with_reducible apply Q.te | with_reducible apply Q.bn | with_reducible apply Q.br | with_reducible apply Q.be | ((with_reducible apply Q.bx); decide) | with_reducible apply Q.tp | with_reducible apply Q.bp
    | with_reducible apply SW.seq | with_reducible apply SW.block | with_reducible apply SW.ret | with_reducible apply SW.skip | with_reducible apply SW.exit
    | ((with_reducible apply SW.cond1); rfl; (focus (first | with_reducible rfl | ((with_reducible apply decide_eq_true); omega) | ((with_reducible apply decide_eq_false); omega) | ((with_reducible apply beq_iff_eq.2); omega) | ((with_reducible apply beq_eq_false_iff_ne.2); omega) | ((with_reducible apply bne_iff_ne.2); omega) | ((with_reducible apply bne_eq_false_iff_eq.2); omega) | (simp; done)))) | ((with_reducible apply SW.cond0); rfl; (focus (first | with_reducible rfl | ((with_reducible apply decide_eq_true); omega) | ((with_reducible apply decide_eq_false); omega) | ((with_reducible apply beq_iff_eq.2); omega) | ((with_reducible apply beq_eq_false_iff_ne.2); omega) | ((with_reducible apply bne_iff_ne.2); omega) | ((with_reducible apply bne_eq_false_iff_eq.2); omega) | (simp; done))))
    | ((with_reducible apply SW.cond); rfl; all_goals (intro h; first | replace h := beq_t h | replace h := beq_f h | replace h := bne_t h | replace h := bne_f h | replace h := of_decide_eq_true h | replace h := of_decide_eq_false h | skip))
    | ((with_reducible apply SW.region0); kernel_rfl; rfl))
  all_goals ((first | refine Q.dret (.cons (.tmp rfl) .nil) ?_ | refine Q.dret (.cons (.cell rfl (by repeat (first | exact List.Mem.head _ | apply List.Mem.tail)) rfl) .nil) ?_ | refine Q.dret (.cons (.tmp rfl) (.cons (.tmp rfl) .nil)) ?_); first | rfl | (simp [tupV]; done) | (simp_all [tupV]; done))

def emptyS : Svs := ⟨1 * 232792560, 0, []⟩
def freshS (b p : Int) : Svs := ⟨1 * 232792560, 0 + ask b p, [newV b p]⟩
def oneS (b p left dl : Int) : Svs := ⟨1 * 232792560, 0 + ask b p, [⟨b, p, left, dl, true⟩]⟩
def fit1 (b p : Int) : Prop := 1 ≤ b ∧ b ≤ p ∧ p ≤ 20 ∧ 232792560 % p = 0
theorem fit1_ask {b p : Int} (h : fit1 b p) : 0 ≤ ask b p ∧ ask b p ≤ 232792560 := ask_rng (by have := h.1; omega) h.2.1 (by have := h.1; have := h.2.1; omega)
theorem fresh_ok {b p : Int} (h : fit1 b p) : (freshS b p).ok := by
  have ha := fit1_ask h
  obtain ⟨h1, h2, h3, h4⟩ := h
  refine ⟨by show (1 : Int) * 232792560 ≤ _; omega, by show 0 ≤ 0 + ask b p; omega, by show 0 + ask b p ≤ 1 * 232792560; omega, by show 1 ≤ 32; omega, fun x hx => ?_⟩
  rw [List.mem_singleton.1 hx]; unfold Srv.ok newV; dsimp only; omega
theorem one_ok {b p left dl : Int} (h : fit1 b p) (hl : 0 ≤ left ∧ left ≤ b) (hd : U64 dl) : (oneS b p left dl).ok := by
  have ha := fit1_ask h
  obtain ⟨h1, h2, h3, h4⟩ := h
  obtain ⟨d0, d1⟩ := hd
  refine ⟨by show (1 : Int) * 232792560 ≤ _; omega, by show 0 ≤ 0 + ask b p; omega, by show 0 + ask b p ≤ 1 * 232792560; omega, by show 1 ≤ 32; omega, fun x hx => ?_⟩
  rw [List.mem_singleton.1 hx]; unfold Srv.ok; dsimp only; omega
theorem one_new (H : Hp) : OC Try.prog 13 #[.int .i64 1] H (fun u H' => ∃ b, u = .pointer (some ⟨b, 0, none⟩) ∧ H' = svH b emptyS none H ∧ OOk 5 none emptyS.l.length (cellsV emptyS.l)) := OC.mono (new_oc H 1 (by decide) (by decide)) fun _ _ ⟨b, h1, h2⟩ => ⟨b, h1, h2, OOk.nil⟩
theorem empty_ok : emptyS.ok := ⟨by show (1 : Int) * 232792560 ≤ _; omega, Int.le_refl 0, by show (0 : Int) ≤ 1 * 232792560; omega, by decide, fun _ h => nomatch h⟩
theorem one_adm (b p : Int) (h : fit1 b p) (v : Own) (bl : Nat) (F : Hp) (hv : OOk 5 v emptyS.l.length (cellsV emptyS.l)) : OC Try.prog 14 #[.pointer (some ⟨bl, 0, none⟩), .int .u64 b, .int .u64 p] (svH bl emptyS v F) (fun u H' => u = .tuple #[.int .i64 0, .int .i64 0] ∧ ∃ v', H' = svH bl (freshS b p) v' F ∧ OOk 5 v' (freshS b p).l.length (cellsV (freshS b p).l)) := by
  have ha := fit1_ask h
  have hh := h
  obtain ⟨h1, h2, h3, h4⟩ := hh
  have hc := admit_oc emptyS v bl b p F empty_ok hv ⟨by omega, by omega⟩ ⟨by omega, by omega⟩
  obtain ⟨e1, e2, e3⟩ := adm_none (s := emptyS) (b := b) (p := p) ⟨by omega, h2, h4⟩ (by decide) (by show ¬ (1 : Int) * 232792560 - 0 < ask b p; omega)
  have e4 : admS emptyS b p = freshS b p := by rw [e3]; rfl
  rw [e1, e2, e4] at hc; exact hc
theorem one_wake (b p now : Int) (h : fit1 b p) (hn : 0 ≤ now ∧ now < 4294967296) (v : Own) (bl : Nat) (F : Hp) (hv : OOk 5 v (freshS b p).l.length (cellsV (freshS b p).l)) : OC Try.prog 19 #[.pointer (some ⟨bl, 0, none⟩), .int .i64 0, .int .u64 now] (svH bl (freshS b p) v F) (fun u H' => u = .int .i64 0 ∧ H' = svH bl (oneS b p b (now + p)) v F ∧ OOk 5 v (oneS b p b (now + p)).l.length (cellsV (oneS b p b (now + p)).l)) := by
  have hc := wake_oc (freshS b p) v bl 0 now F (fresh_ok h) hv ⟨by omega, by omega⟩
  have e1 : wakE (freshS b p) 0 = 0 := rfl
  have e2 : wakS (freshS b p) 0 now = oneS b p b (now + p) := by
    rw [show (0 : Int) = ((0 : Nat) : Int) from rfl, getS_wak (x := newV b p) (by decide : 0 < 1) rfl, if_pos (.inl rfl)]
    have e : sat now p = now + p := by unfold sat; rw [if_neg (by have := h.2.2.1; omega)]
    show (⟨_, _, [fillS (newV b p) now]⟩ : Svs) = _
    unfold fillS newV oneS; dsimp only; rw [e]; rfl
  rw [e1, e2] at hc; exact hc
theorem one_cha (b p left dl : Int) (h : fit1 b p) (hl : 1 ≤ left ∧ left ≤ b) (hd : U64 dl) (v : Own) (bl : Nat) (F : Hp) (hv : OOk 5 v (oneS b p left dl).l.length (cellsV (oneS b p left dl).l)) : OC Try.prog 21 #[.pointer (some ⟨bl, 0, none⟩), .int .i64 0] (svH bl (oneS b p left dl) v F) (fun u H' => u = .tuple #[.bool (left - 1 == 0), .int .i64 0] ∧ H' = svH bl (oneS b p (left - 1) dl) v F ∧ OOk 5 v (oneS b p (left - 1) dl).l.length (cellsV (oneS b p (left - 1) dl).l)) := by
  have hc := charge_oc (oneS b p left dl) v bl 0 F (one_ok h ⟨by omega, by omega⟩ hd) hv
  obtain ⟨e1, e2, e3⟩ := cha_in (s := oneS b p left dl) (j := 0) (x := ⟨b, p, left, dl, true⟩) (by decide : 0 < 1) rfl (by dsimp only; omega)
  have e4 : chaS (oneS b p left dl) ((0 : Nat) : Int) = oneS b p (left - 1) dl := e3
  rw [show (0 : Int) = ((0 : Nat) : Int) from rfl, e1, e2, e4] at hc; exact hc
theorem one_ref0 (b p left dl now : Int) (h : fit1 b p) (hl : 0 ≤ left ∧ left ≤ b) (hd : U64 dl) (hn : U64 now) (hlt : left ≠ 0 ∨ now < dl) (v : Own) (bl : Nat) (F : Hp) (hv : OOk 5 v (oneS b p left dl).l.length (cellsV (oneS b p left dl).l)) : OC Try.prog 20 #[.pointer (some ⟨bl, 0, none⟩), .int .u64 now] (svH bl (oneS b p left dl) v F) (fun u H' => ∃ vo, u = .slice (oA vo) 0 (oC vo) ∧ H' = oH 3 vo (cellsN []) (svH bl (oneS b p left dl) v F) ∧ OOk 1 vo 0 (cellsN [])) := by
  have hc := refill_oc (oneS b p left dl) v bl now F (one_ok h hl hd) hv hn
  have hb : dueB ⟨b, p, left, dl, true⟩ now = false := by
    unfold dueB; rcases hlt with hlt | hlt
    · simp [hlt]
    · have : ¬ dl ≤ now := by omega
      simp [this]
  have e1 : refL (oneS b p left dl).l now = (oneS b p left dl).l := by
    show [refX now ⟨b, p, left, dl, true⟩] = _
    unfold refX; rw [hb]; rfl
  have e2 : outL (oneS b p left dl).l now (oneS b p left dl).l.length = [] := by
    have h0 : (oneS b p left dl).l[0]? = some ⟨b, p, left, dl, true⟩ := rfl
    have := out_no (now := now) h0 (by rw [hb]; decide)
    rw [out_zero] at this; exact this
  rw [e1, e2] at hc; exact hc
theorem one_ref1 (b p dl now : Int) (h : fit1 b p) (hd : U64 dl) (hn : 0 ≤ now ∧ now + p < 18446744073709551616) (hlt : dl ≤ now) (v : Own) (bl : Nat) (F : Hp) (hv : OOk 5 v (oneS b p 0 dl).l.length (cellsV (oneS b p 0 dl).l)) : OC Try.prog 20 #[.pointer (some ⟨bl, 0, none⟩), .int .u64 now] (svH bl (oneS b p 0 dl) v F) (fun u H' => ∃ vo, u = .slice (oA vo) 1 (oC vo) ∧ H' = oH 3 vo (cellsN [0]) (svH bl (oneS b p b (now + p)) v F) ∧ OOk 1 vo 1 (cellsN [0]) ∧ OOk 5 v (oneS b p b (now + p)).l.length (cellsV (oneS b p b (now + p)).l)) := by
  have hb0 := h.1
  have hp0 := h.2.1
  have hc := refill_oc (oneS b p 0 dl) v bl now F (one_ok h ⟨by omega, by omega⟩ hd) hv ⟨by omega, by omega⟩
  have hb : dueB ⟨b, p, 0, dl, true⟩ now = true := by
    unfold dueB; simp [hlt]
  have e1 : refL (oneS b p 0 dl).l now = (oneS b p b (now + p)).l := by
    show [refX now ⟨b, p, 0, dl, true⟩] = _
    unfold refX; rw [hb, if_pos rfl]; unfold fillS sat; dsimp only; rw [if_neg (by omega)]; rfl
  have e2 : outL (oneS b p 0 dl).l now (oneS b p 0 dl).l.length = [0] := by
    have h0 : (oneS b p 0 dl).l[0]? = some ⟨b, p, 0, dl, true⟩ := rfl
    have := out_due (now := now) h0 hb
    rw [out_zero] at this; exact this
  rw [e1, e2] at hc
  exact OC.mono hc fun _ _ ⟨vo, h1, h2, h3⟩ => ⟨vo, h1, h2, h3, OOk_put (l := (oneS b p 0 dl).l) hv 0 ⟨b, p, b, now + p, true⟩⟩
theorem one_left (H : Hp) (b p left dl : Int) (bl : Nat) (v : Own) (hm : (bl, svR (oneS b p left dl) v) ∈ H) (hv : OOk 5 v (oneS b p left dl).l.length (cellsV (oneS b p left dl).l)) (hs : Has H (oA v) (cellsV (oneS b p left dl).l)) : RC Try.prog 23 #[.pointer (some ⟨bl, 0, none⟩), .int .i64 0] H (.int .u64 left) := left_rc H bl (oneS b p left dl) v hm hv hs 0
theorem one_dl (H : Hp) (b p left dl : Int) (bl : Nat) (v : Own) (hm : (bl, svR (oneS b p left dl) v) ∈ H) (hv : OOk 5 v (oneS b p left dl).l.length (cellsV (oneS b p left dl).l)) (hs : Has H (oA v) (cellsV (oneS b p left dl).l)) : RC Try.prog 24 #[.pointer (some ⟨bl, 0, none⟩), .int .i64 0] H (.int .u64 dl) := dl_rc H bl (oneS b p left dl) v hm hv hs 0
theorem one_act (H : Hp) (b p left dl : Int) (bl : Nat) (v : Own) (hm : (bl, svR (oneS b p left dl) v) ∈ H) (hv : OOk 5 v (oneS b p left dl).l.length (cellsV (oneS b p left dl).l)) (hs : Has H (oA v) (cellsV (oneS b p left dl).l)) : RC Try.prog 16 #[.pointer (some ⟨bl, 0, none⟩), .int .i64 0] H (.bool (left != 0)) := active_rc H bl (oneS b p left dl) v hm hv hs 0

end Go.Proofs.Ytoeomoaelfnihaa
