/- AgeTop: the law holds of every input. -/
import Derived.Test.YtbickmaflajpdaaK
namespace Go.Proofs.Ytbickmaflajpdaa
open Go Go.RowKit Bw Go.ChangeShapes Go.WideShapes Go.ChangeAt
set_option linter.unusedSimpArgs false
set_option linter.unusedVariables false
attribute [local irreducible] OC RC DC XC

theorem okI_u32 {n : Int} (h : okI .u32 n) : 0 ≤ n ∧ n < 4294967296 := by
  simp [okI, Lit.wf, IntKind.min, IntKind.max, IntKind.signed, IntKind.bits] at h; omega
theorem two_cells {l : List Value} (h : MatchK [.i .u32, .i .u32] l) : ∃ a b, l = [.int .u32 a, .int .u32 b] ∧ okI .u32 a ∧ okI .u32 b := by
  match l, h with
  | [_, _], ⟨⟨a, rfl, ha⟩, ⟨b, rfl, hb⟩, _⟩ => exact ⟨a, b, rfl, ha, hb⟩

set_option maxHeartbeats 4000000 in
set_option maxRecDepth 4000 in
theorem AgeTop_rc (H : Hp) (b s q : Int) (hb : U8 b) (hs0 : 0 ≤ s ∧ s < 4294967296) (hq : 0 ≤ q ∧ q < 4294967296) : RC Try.prog 9 #[.int .u8 b, .int .u32 s, .int .u32 q] H (.bool true) := by
  obtain ⟨s1, s2⟩ := hs0
  obtain ⟨q1, q2⟩ := hq
  have hb' := hb
  obtain ⟨b1, b2⟩ := hb'
  have hs : U64 s := ⟨by omega, by omega⟩
  have hp : U64 (q + 1) := ⟨by omega, by omega⟩
  have hn : U64 (s + 255 * (q + 1)) := ⟨by omega, by omega⟩
  have hn2 : U64 18446744073709551615 := ⟨by omega, by omega⟩
  have e1 : lvl b s (s + 255 * (q + 1)) (q + 1) = 255 := by rw [lvl_steps (by omega) (by omega)]; split <;> omega
  have e2 : lvl b s 18446744073709551615 (q + 1) = 255 := by
    have h1 := lvl_mono (b := b) (s := s) (n := s + 255 * (q + 1)) (m := 18446744073709551615) (p := q + 1) (by omega) (by omega)
    have h2 := (lvl_rng hb hs hn2 hp).1
    obtain ⟨h3, h4⟩ := h2
    omega
  have e3 := nxt_top (b := b) (s := s) (n := s + 255 * (q + 1)) (p := q + 1) (by omega)
  all_goals (try unfold RC)
  all_goals (try unfold DC)
  all_goals refine OC.of_sw Try.func9 rfl Try.ntmps9 (Nat.le_of_ble_eq_true rfl) fun C => ?_
  repeat' (first
    | ((with_reducible apply G.at); rfl; first
       | ((with_reducible apply G.move); rfl; rfl) | ((with_reducible apply G.assign); rfl; rfl)
       | ((with_reducible apply G.load0); rfl; rfl; (focus (repeat (first | exact List.Mem.head _ | assumption | apply List.Mem.tail | apply mem_oH))); rfl) | ((with_reducible apply G.load1); rfl; rfl; (focus (repeat (first | exact List.Mem.head _ | assumption | apply List.Mem.tail | apply mem_oH))); rfl)
       | ((with_reducible apply G.faddrh (k := 0)); rfl; rfl; rfl) | ((with_reducible apply G.faddrh (k := 1)); rfl; rfl; rfl) | ((with_reducible apply G.faddrh (k := 2)); rfl; rfl; rfl) | ((with_reducible apply G.faddrh (k := 3)); rfl; rfl; rfl) | ((with_reducible apply G.faddrh (k := 4)); rfl; rfl; rfl) | ((with_reducible apply G.faddrh (k := 5)); rfl; rfl; rfl) | ((with_reducible apply G.faddrh (k := 6)); rfl; rfl; rfl) | ((with_reducible apply G.faddrh (k := 7)); rfl; rfl; rfl)
       | ((with_reducible apply G.rcall (f := 12)); rfl; rfl; exact Try.call12; exact live_dc.rc; (focus (repeat (first | exact StOk.nil | (refine StOk.keep ?_ ?_; (focus ((repeat (first | exact List.Mem.head _ | assumption | apply List.Mem.tail | apply mem_oH)); done))) | refine StOk.gone (by kernel_rfl) ?_))))
       | ((with_reducible apply G.rcall (f := 10)); rfl; rfl; exact Try.call10; ((apply next_oc); (first | assumption | exact ⟨by omega, by omega⟩); (first | assumption | exact ⟨by omega, by omega⟩); (first | assumption | exact ⟨by omega, by omega⟩); (first | assumption | exact ⟨by omega, by omega⟩)); (focus (repeat (first | exact StOk.nil | (refine StOk.keep ?_ ?_; (focus ((repeat (first | exact List.Mem.head _ | assumption | apply List.Mem.tail | apply mem_oH)); done))) | refine StOk.gone (by kernel_rfl) ?_))))
       | ((with_reducible apply G.dcall (f := 11)); rfl; rfl; exact Try.call11; exact (rnext_dc _ _ _ _ (by first | assumption | exact ⟨by omega, by omega⟩) (by first | assumption | exact ⟨by omega, by omega⟩) (by first | assumption | exact ⟨by omega, by omega⟩) (by first | assumption | exact ⟨by omega, by omega⟩)))
       | ((with_reducible apply G.dcall (f := 13)); rfl; rfl; exact Try.call13; exact (lev_dc _ _ _ _ (by first | assumption | exact ⟨by omega, by omega⟩) (by first | assumption | exact ⟨by omega, by omega⟩) (by first | assumption | exact ⟨by omega, by omega⟩) (by first | assumption | exact ⟨by omega, by omega⟩)))
       | ((with_reducible apply G.dcall (f := 14)); rfl; rfl; exact Try.call14; exact (rlevel_dc _ _ _ _ (by first | assumption | exact ⟨by omega, by omega⟩) (by first | assumption | exact ⟨by omega, by omega⟩) (by first | assumption | exact ⟨by omega, by omega⟩) (by first | assumption | exact ⟨by omega, by omega⟩)))
       | ((with_reducible apply G.dcall (f := 15)); rfl; rfl; exact Try.call15; exact (level_dc _ _ _ _ (by first | assumption | exact ⟨by omega, by omega⟩) (by first | assumption | exact ⟨by omega, by omega⟩) (by first | assumption | exact ⟨by omega, by omega⟩) (by first | assumption | exact ⟨by omega, by omega⟩)))
       | ((with_reducible apply G.nilck); rfl; rfl) | ((with_reducible apply G.extract); rfl; rfl; rfl) | ((with_reducible apply G.len); rfl; rfl; rfl) | ((with_reducible apply G.pick1); rfl; rfl; rfl) | ((with_reducible apply G.pick0); rfl; rfl; rfl) | ((with_reducible apply G.unw); rfl) | ((with_reducible apply G.unw0); rfl)
       | ((with_reducible apply G.boxa); rfl; rfl; intro b) | ((with_reducible apply G.box); rfl; rfl; intro b) | ((with_reducible apply G.alloc); rfl; rfl; rfl; intro b)
       | ((with_reducible apply G.store); rfl; rfl; rfl; rfl; rfl; rfl; (focus (repeat (first | assumption | exact Rem.here | apply Rem.there | apply Rem.oH))); (exact Nat.le_of_ble_eq_true rfl); (focus (repeat (first | exact StOk.nil | (refine StOk.keep ?_ ?_; (focus ((repeat (first | exact List.Mem.head _ | assumption | apply List.Mem.tail | apply mem_oH)); done))) | refine StOk.gone (by kernel_rfl) ?_))); rfl)
       | ((with_reducible apply G.build); rfl; rfl; rfl) | ((with_reducible apply G.eqs); rfl; rfl; rfl; rfl; (kernel_rfl); (kernel_rfl)) | ((with_reducible apply G.nes); rfl; rfl; rfl; rfl; (kernel_rfl); (kernel_rfl))
       | ((with_reducible apply G.num); rfl; rfl; rfl; rfl; rfl; (first | ((with_reducible apply shl8); omega; omega) | ((with_reducible apply shl16); omega; omega) | ((with_reducible apply or8); omega; omega; omega; omega) | ((with_reducible apply or16); omega; omega; omega; omega) | ((with_reducible apply or24); omega; omega; omega; omega; omega; omega) | ((with_reducible apply i64_in); omega; omega) | ((with_reducible apply wrap8_in); omega; omega) | ((with_reducible apply u64_in); omega; omega) | with_reducible exact shr16 _ | with_reducible exact shr8 _ | with_reducible exact wrap8_mod _ | with_reducible exact shr32u _ | ((with_reducible apply and32u); omega; omega) | with_reducible exact wrap64_mod _))
       | ((with_reducible apply G.min2); rfl; rfl; rfl; (first | (apply if_pos; omega) | (apply if_neg; omega) | rfl)) | ((with_reducible apply G.max2); rfl; rfl; rfl; (first | (apply if_pos; omega) | (apply if_neg; omega) | rfl))
       | ((with_reducible apply G.pure); rfl; rfl; rfl; rfl; rfl)
       | ((with_reducible apply G.known true); rfl; rfl; rfl; (focus (first | rfl | (apply decide_eq_true; omega) | (apply decide_eq_false; omega) | (apply beq_iff_eq.2; omega) | (apply beq_eq_false_iff_ne.2; omega) | (apply bne_iff_ne.2; omega) | (apply bne_eq_false_iff_eq.2; omega) | (simp; done) | (rw [e3]; done) | (rw [e3]; rfl)))) | ((with_reducible apply G.known false); rfl; rfl; rfl; (focus (first | rfl | (apply decide_eq_true; omega) | (apply decide_eq_false; omega) | (apply beq_iff_eq.2; omega) | (apply beq_eq_false_iff_ne.2; omega) | (apply bne_iff_ne.2; omega) | (apply bne_eq_false_iff_eq.2; omega) | (simp; done) | (rw [e3]; done) | (rw [e3]; rfl))))
       | ((with_reducible apply G.split); rfl; rfl; rfl; all_goals (intro h; first | replace h := beq_t h | replace h := beq_f h | replace h := bne_t h | replace h := bne_f h | replace h := of_decide_eq_true h | replace h := of_decide_eq_false h | skip)))
    | with_reducible apply RG.done | with_reducible apply Q.tn | with_reducible apply Q.tr | with_reducible apply Q.te | with_reducible apply Q.bn | with_reducible apply Q.br | with_reducible apply Q.be | ((with_reducible apply Q.bx); decide) | with_reducible apply Q.tp | with_reducible apply Q.bp
    | with_reducible apply SW.seq | with_reducible apply SW.block | with_reducible apply SW.ret | with_reducible apply SW.skip | with_reducible apply SW.exit
    | ((with_reducible apply SW.cond1); rfl; (focus (first | rfl | (apply decide_eq_true; omega) | (apply decide_eq_false; omega) | (apply beq_iff_eq.2; omega) | (apply beq_eq_false_iff_ne.2; omega) | (apply bne_iff_ne.2; omega) | (apply bne_eq_false_iff_eq.2; omega) | (simp; done)))) | ((with_reducible apply SW.cond0); rfl; (focus (first | rfl | (apply decide_eq_true; omega) | (apply decide_eq_false; omega) | (apply beq_iff_eq.2; omega) | (apply beq_eq_false_iff_ne.2; omega) | (apply bne_iff_ne.2; omega) | (apply bne_eq_false_iff_eq.2; omega) | (simp; done))))
    | ((with_reducible apply SW.cond); rfl; all_goals (intro h; first | replace h := beq_t h | replace h := beq_f h | replace h := bne_t h | replace h := bne_f h | replace h := of_decide_eq_true h | replace h := of_decide_eq_false h | skip))
    | ((with_reducible apply SW.region0); kernel_rfl; rfl))
  all_goals ((apply Q.rret (.cons (by first | exact .tmp rfl | exact .cell rfl (by repeat (first | exact List.Mem.head _ | apply List.Mem.tail)) rfl) .nil)); ((focus (repeat (first | exact Rems.all | exact Rems.nil | (apply Rems.own; (focus (repeat (first | exact OIn.here | apply OIn.there | apply OIn.over)))) | (apply Rems.cons; (focus (repeat (first | assumption | exact Rem.here | apply Rem.there | apply Rem.oH)))) | apply Rems.skip | apply Rems.oskip)))); (first | rfl | (simp [tupV, e3]; done) | (simp [tupV]; omega)))

theorem AgeTop_own : ownKnob Try.prog.godebug = none := by kernel_rfl
theorem AgeTop_laid : laidOutB Try.prog = true := by kernel_rfl
set_option maxRecDepth 100000 in
theorem AgeTop_lifted (os : Os) (started : os.Started) (H : Type) (enc : TypeId × Value → H) :
    ReturnsInHanded {} Try.checked os 9 .any (Rows.ageTopSpec.pre6 enc Try.prog Try.f9 Rows.ageTopRow.domain false) (Rows.ageTopSpec.post enc Try.prog Try.f9 false true false false) := by
  refine returnsInHanded_of_change (C := Try.checked) AgeTop_own started (by kernel_rfl) Try.func9
    (ChangeSpec.witness6 (enc := enc) (C := Try.checked) false ⟨#[], #[.int .u8 0, .int .u32 0, .int .u32 0], []⟩ 8 (by kernel_rfl) (by kernel_rfl) (by kernel_rfl) (by kernel_rfl)) ?_
  intro W base args ds gs before hval0 hW _ _
  have hval : ∀ (j : Nat) t v, Try.f9.params[j]? = some t → args[j]? = some v → Value.okWide Try.prog W .any base t v := hval0
  have hW' := hW
  obtain ⟨p, q, hA0, hV, rfl, _, _⟩ := hW
  obtain ⟨rfl, rfl⟩ := trodVars_none hV
  have hA : DataW.TrodAll enc Try.prog W 0 (fun _ => true) true Try.f9.params.toList args.toList ds p := hA0
  rw [Try.params9] at hA hval
  obtain ⟨v0, v1, v2, d0, d1, d2, p0, p1, p2, rfl, rfl, rfl, h0, h1, h2⟩ := trodAll_three hA

  obtain ⟨x0, rfl, _, _, w0⟩ := open_int Try.underlying5 (hval 0 5 _ rfl rfl) h0
  obtain ⟨x1, rfl, _, _, w1⟩ := open_int Try.underlying33 (hval 1 33 _ rfl rfl) h1
  obtain ⟨x2, rfl, _, _, w2⟩ := open_int Try.underlying33 (hval 2 33 _ rfl rfl) h2
  refine (RC.run (AgeTop_rc [] x0 x1 x2 (okI_u8 w0) (okI_u32 w1) (okI_u32 w2)) RoIn.nil).mono fun e W' ⟨he, hb⟩ => ?_
  subst he
  exact ⟨_, rfl, law_post AgeTop_laid (by decide +kernel) rfl Try.underlying4 rfl (fun ds h => by match ds, h with | [d0, d1, d2], _ => rfl) rfl hW' hb⟩

theorem AgeTop_holds : Rows.AgeTopSaid :=
  OpenClaim.holds_of_wide 9 Try.f9 rfl rfl rfl rfl rfl rfl rfl ⟨rfl, rfl, rfl, rfl, rfl⟩ rfl rfl rfl rfl rfl (by kernel_rfl) Try.func9 (by kernel_rfl)
    (of_decide_eq_true (by kernel_rfl)) (by unfold Func.isWrapper; first | (rw [if_pos (by decide +kernel)]; kernel_rfl) | (rw [if_neg (by decide +kernel)]; exact ⟨rfl, rfl⟩))
    (fun os started H enc _ => AgeTop_lifted os started H enc)

end Go.Proofs.Ytbickmaflajpdaa
