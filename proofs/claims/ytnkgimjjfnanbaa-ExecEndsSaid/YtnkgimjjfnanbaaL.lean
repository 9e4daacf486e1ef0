/- What must be whatever is asked; plain laws of runs. -/
import Derived.Test.YtnkgimjjfnanbaaK3
namespace Go.Proofs.Ytnkgimjjfnanbaa
open Go Go.RowKit Bw
set_option linter.unusedSimpArgs false
set_option linter.unusedVariables false
attribute [local irreducible] OC RC DC XC


abbrev liveL : List IV := [(1, 2), (9, 0)]
theorem chk_live : (chk liveL).1 = 0 := by unfold chk bad rightB; rfl
theorem stp_live : stp liveL (0, 0) = ((1, 2), (1, 2), false) := by rw [stp_in (x := (1, 2)) (by decide) chk_live (by decide) rfl]; rfl
theorem stp_live2 : stp liveL (1, 0) = ((9, 0), (1, 0), false) := by rw [stp_in (x := (9, 0)) (by decide) chk_live (by decide) rfl]; rfl
theorem run_live : runN liveL (cnt 9) 0 = liveL := by
  show runN liveL (7 + 1 + 1) 0 = liveL
  simp only [runN, stp_live, stp_live2]; rfl
theorem step_live (H : Hp) (a : Option Addr) (c : Nat) (hs : Has H a (cellsI liveL)) : RC Try.prog 15 #[.slice a 2 c, .agg #[.int .i64 0, .int .i64 0]] H (.tuple #[.agg #[.int .i64 1, .int .i64 2], .agg #[.int .i64 1, .int .i64 2], .bool false]) := by
  have := step_rc H a c liveL (0, 0) hs; rw [stp_live] at this; exact this
theorem tick_live : DC Try.prog 16 #[.agg #[.int .i64 1, .int .i64 2]] (.agg #[.int .i64 1, .int .i64 1]) := tick_dc (1, 2) ⟨by decide, by decide⟩
theorem run_live_oc (H : Hp) (a : Option Addr) (c : Nat) (hs : Has H a (cellsI liveL)) : OC Try.prog 12 #[.slice a 2 c, .int .i64 9] H (RunR liveL (cnt 9) H) := run_oc H a c liveL 9 ⟨by decide, by decide⟩ hs

set_option maxHeartbeats 4000000 in
set_option maxRecDepth 4000 in
theorem live_dc : DC Try.prog 10 #[] (.bool true) := by
  all_goals (try unfold RC)
  all_goals (try unfold DC)
  all_goals refine OC.of_sw Try.func10 rfl Try.ntmps10 (Nat.le_of_ble_eq_true rfl) fun C => ?_
  repeat' (first
    | ((with_reducible apply G.at); rfl; first
       | ((with_reducible apply G.move); rfl; rfl) | ((with_reducible apply G.assign); rfl; rfl)
       | ((with_reducible apply G.load0); rfl; rfl; (focus (repeat (first | exact List.Mem.head _ | assumption | apply List.Mem.tail | apply mem_oH))); rfl) | ((with_reducible apply G.load1); rfl; rfl; (focus (repeat (first | exact List.Mem.head _ | assumption | apply List.Mem.tail | apply mem_oH))); rfl)
       | ((with_reducible apply G.faddrh (k := 0)); rfl; rfl; rfl) | ((with_reducible apply G.faddrh (k := 1)); rfl; rfl; rfl) | ((with_reducible apply G.faddrh (k := 2)); rfl; rfl; rfl) | ((with_reducible apply G.faddrh (k := 3)); rfl; rfl; rfl) | ((with_reducible apply G.faddrh (k := 4)); rfl; rfl; rfl) | ((with_reducible apply G.faddrh (k := 5)); rfl; rfl; rfl) | ((with_reducible apply G.faddrh (k := 6)); rfl; rfl; rfl) | ((with_reducible apply G.faddrh (k := 7)); rfl; rfl; rfl)
       | ((with_reducible apply G.bslice); rfl; rfl; intro b)
       | ((with_reducible apply G.rcall (f := 15)); rfl; rfl; exact Try.call15; (exact step_live _ _ _ (Has.row (List.Mem.head _))); (focus (repeat (first | exact StOk.nil | (refine StOk.keep ?_ ?_; (focus ((repeat (first | exact List.Mem.head _ | assumption | apply List.Mem.tail | apply mem_oH)); done))) | refine StOk.gone (by kernel_rfl) ?_))))
       | ((with_reducible apply G.dcall (f := 16)); rfl; rfl; exact Try.call16; exact tick_live)
       | ((with_reducible apply G.hcall (f := 12)); rfl; rfl; exact Try.call12; ((apply run_live_oc); (focus (repeat (first | assumption | exact Has.row (List.Mem.head _) | (apply Has.mine; assumption) | apply Has.tail | apply Has.oH | exact Has.nil)))); (intro _ _ _; exact StOk.nil); (rintro _ _ ⟨o, v, ho, rfl, rfl, hok⟩; rw [run_live] at ho; subst ho))
       | ((with_reducible apply G.nilck); rfl; rfl) | ((with_reducible apply G.extract); rfl; rfl; rfl) | ((with_reducible apply G.len); rfl; rfl; rfl) | ((with_reducible apply G.pick1); rfl; rfl; rfl) | ((with_reducible apply G.pick0); rfl; rfl; rfl) | ((with_reducible apply G.unw); rfl) | ((with_reducible apply G.unw0); rfl)
       | ((with_reducible apply G.boxa); rfl; rfl; intro b) | ((with_reducible apply G.box); rfl; rfl; intro b) | ((with_reducible apply G.alloc); rfl; rfl; rfl; intro b)
       | ((with_reducible apply G.store); rfl; rfl; rfl; rfl; rfl; rfl; (focus (repeat (first | assumption | exact Rem.here | apply Rem.there | apply Rem.oH))); (exact Nat.le_of_ble_eq_true rfl); (focus (repeat (first | exact StOk.nil | (refine StOk.keep ?_ ?_; (focus ((repeat (first | exact List.Mem.head _ | assumption | apply List.Mem.tail | apply mem_oH)); done))) | refine StOk.gone (by kernel_rfl) ?_))); rfl)
       | ((with_reducible apply G.build); rfl; rfl; rfl) | ((with_reducible apply G.eqs); rfl; rfl; rfl; rfl; (kernel_rfl); (kernel_rfl)) | ((with_reducible apply G.nes); rfl; rfl; rfl; rfl; (kernel_rfl); (kernel_rfl))
       | ((with_reducible apply G.num); rfl; rfl; rfl; rfl; rfl; (first | ((with_reducible apply shl8); omega; omega) | ((with_reducible apply shl16); omega; omega) | ((with_reducible apply or8); omega; omega; omega; omega) | ((with_reducible apply or16); omega; omega; omega; omega) | ((with_reducible apply or24); omega; omega; omega; omega; omega; omega) | ((with_reducible apply i64_in); omega; omega) | ((with_reducible apply wrap8_in); omega; omega) | ((with_reducible apply u64_in); omega; omega) | with_reducible exact shr16 _ | with_reducible exact shr8 _ | with_reducible exact wrap8_mod _ | with_reducible exact shr32u _ | ((with_reducible apply and32u); omega; omega) | with_reducible exact wrap64_mod _))
       | ((with_reducible apply G.min2); rfl; rfl; rfl; (first | (apply if_pos; omega) | (apply if_neg; omega) | rfl)) | ((with_reducible apply G.max2); rfl; rfl; rfl; (first | (apply if_pos; omega) | (apply if_neg; omega) | rfl))
       | ((with_reducible apply G.pure); rfl; rfl; rfl; rfl; rfl)
       | ((with_reducible apply G.known true); rfl; rfl; rfl; (focus (first | with_reducible rfl | rfl))) | ((with_reducible apply G.known false); rfl; rfl; rfl; (focus (first | with_reducible rfl | rfl)))
       | ((with_reducible apply G.split); rfl; rfl; rfl; all_goals (intro h; first | replace h := beq_t h | replace h := beq_f h | replace h := bne_t h | replace h := bne_f h | replace h := of_decide_eq_true h | replace h := of_decide_eq_false h | skip)))
    | with_reducible apply RG.done | with_reducible apply Q.tn | with_reducible apply Q.tr | with_reducible apply Q.te | with_reducible apply Q.bn | with_reducible apply Q.br | with_reducible apply Q.be | ((with_reducible apply Q.bx); decide) | with_reducible apply Q.tp | with_reducible apply Q.bp
    | with_reducible apply SW.seq | with_reducible apply SW.block | with_reducible apply SW.ret | with_reducible apply SW.skip | with_reducible apply SW.exit
    | ((with_reducible apply SW.cond1); rfl; (focus (first | with_reducible rfl | rfl))) | ((with_reducible apply SW.cond0); rfl; (focus (first | with_reducible rfl | rfl)))
    | ((with_reducible apply SW.cond); rfl; all_goals (intro h; first | replace h := beq_t h | replace h := beq_f h | replace h := bne_t h | replace h := bne_f h | replace h := of_decide_eq_true h | replace h := of_decide_eq_false h | skip))
    | ((with_reducible apply SW.region0); kernel_rfl; rfl))
  all_goals ((first | refine Q.dret (.cons (.tmp rfl) .nil) ?_ | refine Q.dret (.cons (.cell rfl (by repeat (first | exact List.Mem.head _ | apply List.Mem.tail)) rfl) .nil) ?_ | refine Q.dret (.cons (.tmp rfl) (.cons (.tmp rfl) .nil)) ?_); rfl)

theorem stp_place {l : List IV} {p : Int} {x : IV} (hz : (chk l).1 = 0) (h0 : 0 ≤ p ∧ p < l.length) (hx : l[p.toNat]? = some x) :
    (stp l (p, 0)).1 = x ∧ (stp l (p, 0)).2.2 = false ∧ ((x.1 = 9 ∧ (stp l (p, 0)).2.1 = (p, 0)) ∨ (¬ x.1 = 9 ∧ 0 ≤ (stp l (p, 0)).2.1.1 ∧ (stp l (p, 0)).2.1.1 < l.length)) := by
  obtain ⟨hpos, h64, hall, hend⟩ := chk_ok hz
  rw [stp_in (f := (p, 0)) (Int.lt_irrefl 0) hz h0 hx]
  have hlast : ¬ x.1 = 9 → ¬ x.1 = 8 → p + 1 < l.length := fun h9 h8 => by
    by_cases he : p.toNat = l.length - 1
    · rw [he] at hx
      rcases hend _ hx with h | h
      · exact absurd h h8
      · exact absurd h h9
    · omega
  by_cases h9 : x.1 = 9
  · rw [if_pos h9]; exact ⟨rfl, rfl, .inl ⟨h9, rfl⟩⟩
  · rw [if_neg h9]
    by_cases h8 : x.1 = 8
    · rw [if_pos h8]
      have hr := hall _ _ hx
      unfold rightB at hr
      simp [h8] at hr
      exact ⟨rfl, rfl, .inr ⟨h9, hr⟩⟩
    · rw [if_neg h8]
      have := hlast h9 h8
      by_cases h1 : x.1 = 1
      · rw [if_pos h1]; exact ⟨rfl, rfl, .inr ⟨h9, by show 0 ≤ p + 1; omega, this⟩⟩
      · rw [if_neg h1]; exact ⟨rfl, rfl, .inr ⟨h9, by show 0 ≤ p + 1; omega, this⟩⟩
theorem run_len (l : List IV) : ∀ (n : Nat) (p : Int), (runN l n p).length ≤ n
  | 0, _ => Nat.le_refl _
  | n + 1, p => by
    rw [runN, List.length_cons]
    split
    · simp
    · have := run_len l n (stp l (p, 0)).2.1.1; omega
theorem run_take (l : List IV) : ∀ (a b : Nat) (p : Int), a ≤ b → (runN l b p).take (runN l a p).length = runN l a p ∧ (runN l a p).length ≤ (runN l b p).length
  | 0, b, p, _ => by simp [runN]
  | a + 1, 0, p, h => by omega
  | a + 1, b + 1, p, h => by
    simp only [runN, List.length_cons, List.take_succ_cons]
    split
    · exact ⟨rfl, Nat.le_refl _⟩
    · obtain ⟨h1, h2⟩ := run_take l a b (stp l (p, 0)).2.1.1 (by omega)
      exact ⟨by rw [h1], by omega⟩
theorem run_nine (l : List IV) : ∀ (n : Nat) (p : Int) (i : Nat) (x : IV), (runN l n p)[i]? = some x → x.1 = 9 → i + 1 = (runN l n p).length
  | 0, p, i, x, h, _ => by simp [runN] at h
  | n + 1, p, 0, x, h, h9 => by
    simp only [runN, List.getElem?_cons_zero, Option.some.injEq] at h
    rw [runN, h, if_pos h9]; rfl
  | n + 1, p, i + 1, x, h, h9 => by
    rw [runN] at h ⊢
    rw [List.getElem?_cons_succ] at h
    rw [List.length_cons]
    split
    · rename_i hc; rw [if_pos hc] at h; simp at h
    · rename_i hc; rw [if_neg hc] at h
      have := run_nine l n _ i x h h9
      omega
theorem run_end (l : List IV) : ∀ (n : Nat) (p : Int), (runN l n p).length = n ∨ ∃ x, (runN l n p)[(runN l n p).length - 1]? = some x ∧ x.1 = 9 ∧ 0 < (runN l n p).length
  | 0, p => .inl rfl
  | n + 1, p => by
    by_cases hc : (stp l (p, 0)).1.1 = 9
    · refine .inr ⟨(stp l (p, 0)).1, ?_, hc, ?_⟩ <;> rw [runN, if_pos hc] <;> simp
    · rw [runN, if_neg hc]
      rcases run_end l n (stp l (p, 0)).2.1.1 with h | ⟨x, h1, h2, h3⟩
      · exact .inl (by rw [List.length_cons, h])
      · refine .inr ⟨x, ?_, h2, by simp⟩
        rw [List.length_cons, Nat.add_sub_cancel]
        rw [show (runN l n (stp l (p, 0)).2.1.1).length = (runN l n (stp l (p, 0)).2.1.1).length - 1 + 1 by omega, List.getElem?_cons_succ]
        exact h1
theorem cnt_small {n : Int} (h : 0 ≤ n) (h1 : n ≤ 10000) : cnt n = n.toNat := by
  rcases cnt_cases n with ⟨a, b⟩ | ⟨a, b, c⟩ | ⟨a, b⟩ <;> omega

end Go.Proofs.Ytnkgimjjfnanbaa
