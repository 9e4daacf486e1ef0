/- ProgChecks: the law holds of every input. -/
import Derived.Test.YtjgilhbponfaaaaK
namespace Go.Proofs.Ytjgilhbponfaaaa
open Go Go.RowKit Bw Go.ChangeShapes Go.WideShapes Go.ChangeAt


set_option maxHeartbeats 400000 in
set_option maxRecDepth 4000 in
theorem ProgChecks_rc (H : Hp) (a : Option Addr) (n c : Nat) (l : List IV) (hn : n ≤ c) (hl : l.length = min n 100) (hs : Has H a (cellsI l)) : RC Try.prog 3 #[.slice a n c] H (.bool true) := by
  have hck := check_rc H a c l hs
  have hrck := rcheck_rc H a c l hs
  rw [hl] at hck hrck
  all_goals refine OC.of_sw Try.func3 rfl Try.ntmps3 (Nat.le_of_ble_eq_true rfl) fun C => ?_
  repeat' (first
    | ((with_reducible apply G.at); rfl; first
       | ((with_reducible apply G.move); rfl; rfl) | ((with_reducible apply G.assign); rfl; rfl)
       | ((with_reducible apply G.load0); rfl; rfl; (focus (repeat (first | exact List.Mem.head _ | assumption | apply List.Mem.tail))); rfl) | ((with_reducible apply G.load1); rfl; rfl; (focus (repeat (first | exact List.Mem.head _ | assumption | apply List.Mem.tail))); rfl)
       | ((with_reducible apply G.faddrh (k := 0)); rfl; rfl; rfl) | ((with_reducible apply G.faddrh (k := 1)); rfl; rfl; rfl) | ((with_reducible apply G.faddrh (k := 2)); rfl; rfl; rfl) | ((with_reducible apply G.faddrh (k := 3)); rfl; rfl; rfl) | ((with_reducible apply G.faddrh (k := 4)); rfl; rfl; rfl) | ((with_reducible apply G.faddrh (k := 5)); rfl; rfl; rfl) | ((with_reducible apply G.faddrh (k := 6)); rfl; rfl; rfl) | ((with_reducible apply G.faddrh (k := 7)); rfl; rfl; rfl)
       | ((with_reducible apply G.dcall (f := 12)); rfl; rfl; exact Try.call12; exact few_dc _ _ _ hn)
       | ((with_reducible apply G.rcall (f := 15)); rfl; rfl; exact Try.call15; exact live_dc.rc; (focus (repeat (first | exact StOk.nil | (refine StOk.keep ?_ ?_; (repeat (first | exact List.Mem.head _ | assumption | apply List.Mem.tail))) | refine StOk.gone (by kernel_rfl) ?_))))
       | ((with_reducible apply G.rcall (f := 13)); rfl; rfl; exact Try.call13; (exact hck); (focus (repeat (first | exact StOk.nil | (refine StOk.keep ?_ ?_; (repeat (first | exact List.Mem.head _ | assumption | apply List.Mem.tail))) | refine StOk.gone (by kernel_rfl) ?_))))
       | ((with_reducible apply G.rcall (f := 14)); rfl; rfl; exact Try.call14; (exact hrck); (focus (repeat (first | exact StOk.nil | (refine StOk.keep ?_ ?_; (repeat (first | exact List.Mem.head _ | assumption | apply List.Mem.tail))) | refine StOk.gone (by kernel_rfl) ?_))))
       | ((with_reducible apply G.nilck); rfl; rfl) | ((with_reducible apply G.extract); rfl; rfl; rfl) | ((with_reducible apply G.len); rfl; rfl; rfl) | ((with_reducible apply G.pick1); rfl; rfl; rfl) | ((with_reducible apply G.pick0); rfl; rfl; rfl) | ((with_reducible apply G.unw); rfl) | ((with_reducible apply G.unw0); rfl)
       | ((with_reducible apply G.boxa); rfl; rfl; intro b) | ((with_reducible apply G.box); rfl; rfl; intro b) | ((with_reducible apply G.alloc); rfl; rfl; rfl; intro b)
       | ((with_reducible apply G.store); rfl; rfl; rfl; rfl; rfl; rfl; (first | exact Rem.here | exact .there .here | exact .there (.there .here) | exact .there (.there (.there .here)) | exact .there (.there (.there (.there .here))) | exact .there (.there (.there (.there (.there .here)))) | exact .there (.there (.there (.there (.there (.there .here))))) | exact .there (.there (.there (.there (.there (.there (.there .here))))))); (exact Nat.le_of_ble_eq_true rfl); (focus (repeat (first | exact StOk.nil | (refine StOk.keep ?_ ?_; (repeat (first | exact List.Mem.head _ | assumption | apply List.Mem.tail))) | refine StOk.gone (by kernel_rfl) ?_))); rfl)
       | ((with_reducible apply G.build); rfl; rfl; rfl) | ((with_reducible apply G.eqs); rfl; rfl; rfl; rfl; (kernel_rfl); (kernel_rfl)) | ((with_reducible apply G.nes); rfl; rfl; rfl; rfl; (kernel_rfl); (kernel_rfl))
       | ((with_reducible apply G.num); rfl; rfl; rfl; rfl; rfl; (first | exact i64_in _ (by omega) (by omega) | exact wrap8_in _ (by omega) (by omega) | exact u64_in _ (by omega) (by omega) | exact shr16 _ | exact shr8 _ | exact wrap8_mod _))
       | ((with_reducible apply G.pure); rfl; rfl; rfl; rfl; rfl)
       | ((with_reducible apply G.known true); rfl; rfl; rfl; exact (by first | rfl | (simp; done))) | ((with_reducible apply G.known false); rfl; rfl; rfl; exact (by first | rfl | (simp; done)))
       | ((with_reducible apply G.split); rfl; rfl; rfl; all_goals (intro h; first | replace h := of_decide_eq_true h | replace h := of_decide_eq_false h | skip)))
    | with_reducible apply RG.done | with_reducible apply Q.tn | with_reducible apply Q.tr | with_reducible apply Q.te | with_reducible apply Q.bn | with_reducible apply Q.br | with_reducible apply Q.be | ((with_reducible apply Q.bx); decide)
    | with_reducible apply SW.seq | with_reducible apply SW.block | with_reducible apply SW.ret | with_reducible apply SW.skip | with_reducible apply SW.exit
    | ((with_reducible apply SW.cond1); rfl; exact (by rfl)) | ((with_reducible apply SW.cond0); rfl; exact (by rfl))
    | ((with_reducible apply SW.cond); rfl; all_goals (intro h; first | replace h := of_decide_eq_true h | replace h := of_decide_eq_false h | skip))
    | ((with_reducible apply SW.region0); kernel_rfl; rfl))
  all_goals ((apply Q.rret (.cons (by first | exact .tmp rfl | exact .cell rfl (by repeat (first | exact List.Mem.head _ | apply List.Mem.tail)) rfl) .nil)); ((focus (repeat (first | exact Rems.all | exact Rems.nil | (apply Rems.cons; (first | exact Rem.here | exact .there .here | exact .there (.there .here) | exact .there (.there (.there .here)) | exact .there (.there (.there (.there .here))) | exact .there (.there (.there (.there (.there .here)))))) | apply Rems.skip)))); (simp [tupV]))

theorem ProgChecks_own : ownKnob Try.prog.godebug = none := by kernel_rfl
theorem ProgChecks_laid : laidOutB Try.prog = true := by kernel_rfl
set_option maxRecDepth 100000 in
theorem ProgChecks_lifted (os : Os) (started : os.Started) (H : Type) (enc : TypeId × Value → H) :
    ReturnsInHanded {} Try.checked os 3 .any (Rows.progChecksSpec.pre6 enc Try.prog Try.f3 Rows.progChecksRow.domain false) (Rows.progChecksSpec.post enc Try.prog Try.f3 false true false false) := by
  refine returnsInHanded_of_change (C := Try.checked) ProgChecks_own started (by kernel_rfl) Try.func3
    (ChangeSpec.witness6 (enc := enc) (C := Try.checked) false ⟨#[], #[.slice none 0 0], []⟩ 8 (by kernel_rfl) (by kernel_rfl) (by kernel_rfl) (by kernel_rfl)) ?_
  intro W base args ds gs before hval0 hW _ _
  have hval : ∀ (j : Nat) t v, Try.f3.params[j]? = some t → args[j]? = some v → Value.okWide Try.prog W .any base t v := hval0
  have hW' := hW
  obtain ⟨p, q, hA0, hV, rfl, _, _⟩ := hW
  obtain ⟨rfl, rfl⟩ := trodVars_none hV
  have hA : DataW.TrodAll enc Try.prog W 0 (fun _ => true) true Try.f3.params.toList args.toList ds p := hA0
  rw [Try.params3] at hA hval
  obtain ⟨v0, d0, rfl, rfl, h0⟩ := trodAll_one hA
  obtain ⟨a0, n0, c0, Hc0, els0, rfl, q01, q02, q03, q04, q05, q06, q07⟩ := open_slice Try.underlying22 4 (ks := [.i .i64, .i .i64]) (by kernel_rfl) (by kernel_rfl) (by decide) (hval 0 22 _ rfl rfl) h0
  obtain ⟨L0, rfl, hL0⟩ := pairs_of q04
  have s0 : Has Hc0 a0 (cellsI L0) := q05
  rw [List.length_map] at q01
  refine (OC.run (ProgChecks_rc Hc0 a0 n0 c0 (L0.take (min n0 100)) q02 (by rw [List.length_take]; omega) (by rw [cells_take]; exact s0.take _)) (fun _ _ h => h.1) q06).mono fun e W' ⟨he, hb⟩ => ?_
  subst he
  exact ⟨_, rfl, law_post ProgChecks_laid (by decide +kernel) rfl Try.underlying4 rfl (fun ds h => by match ds, h with | [d0], _ => rfl) rfl hW' hb⟩

theorem ProgChecks_holds : Rows.ProgChecksSaid :=
  OpenClaim.holds_of_wide 3 Try.f3 rfl rfl rfl rfl rfl rfl rfl ⟨rfl, rfl, rfl, rfl, rfl⟩ rfl rfl rfl rfl rfl (by kernel_rfl) Try.func3 (by kernel_rfl)
    (of_decide_eq_true (by kernel_rfl)) (by unfold Func.isWrapper; first | (rw [if_pos (by decide +kernel)]; kernel_rfl) | (rw [if_neg (by decide +kernel)]; exact ⟨rfl, rfl⟩))
    (fun os started H enc _ => ProgChecks_lifted os started H enc)

end Go.Proofs.Ytjgilhbponfaaaa
