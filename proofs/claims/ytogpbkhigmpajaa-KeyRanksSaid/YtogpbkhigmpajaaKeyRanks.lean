/- KeyRanks: the law holds of every input. -/
import Derived.Test.YtogpbkhigmpajaaK
namespace Go.Proofs.Ytogpbkhigmpajaa
open Go Go.RowKit Bw Go.ChangeShapes Go.WideShapes Go.ChangeAt

set_option maxHeartbeats 400000 in
theorem KeyRanks_dc (a0 : Bool) (a1 a2 : Int) (b0 : Bool) (b1 b2 : Int) (ha2 : 0 ≤ a2 ∧ a2 < 256) (ha1 : 0 ≤ a1 ∧ a1 < 18446744073709551616) (hb2 : 0 ≤ b2 ∧ b2 < 256) (hb1 : 0 ≤ b1 ∧ b1 < 18446744073709551616) : DC Try.prog 4 #[.agg #[.bool a0, .int .u64 a1, .int .u8 a2], .agg #[.bool b0, .int .u64 b1, .int .u8 b2]] (.bool true) := by
  refine OC.of_sw Try.func4 rfl Try.ntmps4 (Nat.le_of_ble_eq_true rfl) fun C => ?_
  repeat' (first
    | ((with_reducible apply G.at); rfl; first
       | ((with_reducible apply G.move); rfl; rfl) | ((with_reducible apply G.assign); rfl; rfl)
       | ((with_reducible apply G.load0); rfl; rfl; (repeat (first | exact List.Mem.head _ | apply List.Mem.tail)); rfl) | ((with_reducible apply G.load1); rfl; rfl; (repeat (first | exact List.Mem.head _ | apply List.Mem.tail)); rfl)
       | ((with_reducible apply G.faddrh (k := 0)); rfl; rfl; rfl) | ((with_reducible apply G.faddrh (k := 1)); rfl; rfl; rfl) | ((with_reducible apply G.faddrh (k := 2)); rfl; rfl; rfl) | ((with_reducible apply G.faddrh (k := 3)); rfl; rfl; rfl) | ((with_reducible apply G.faddrh (k := 4)); rfl; rfl; rfl) | ((with_reducible apply G.faddrh (k := 5)); rfl; rfl; rfl) | ((with_reducible apply G.faddrh (k := 6)); rfl; rfl; rfl) | ((with_reducible apply G.faddrh (k := 7)); rfl; rfl; rfl)
       | ((with_reducible apply G.dcall (f := 9)); rfl; rfl; exact Try.call9; exact live_dc)
       | ((with_reducible apply G.dcall (f := 14)); rfl; rfl; exact Try.call14; exact (right_dc _ _ _))
       | ((with_reducible apply G.dcall (f := 15)); rfl; rfl; exact Try.call15; exact (rright_dc _ _ _))
       | ((with_reducible apply G.dcall (f := 16)); rfl; rfl; exact Try.call16; exact (above_dc _ _ _ _ _ _))
       | ((with_reducible apply G.dcall (f := 18)); rfl; rfl; exact Try.call18; exact (rank_dc _ _ _ (by assumption) (by assumption)))
       | ((with_reducible apply G.dcall (f := 17)); rfl; rfl; exact Try.call17; exact (less_dc _ _ _ _))
       | ((with_reducible apply G.nilck); rfl; rfl) | ((with_reducible apply G.extract); rfl; rfl; rfl) | ((with_reducible apply G.len); rfl; rfl; rfl) | ((with_reducible apply G.pick1); rfl; rfl; rfl) | ((with_reducible apply G.pick0); rfl; rfl; rfl) | ((with_reducible apply G.unw); rfl) | ((with_reducible apply G.unw0); rfl)
       | ((with_reducible apply G.boxa); rfl; rfl; intro b) | ((with_reducible apply G.box); rfl; rfl; intro b) | ((with_reducible apply G.alloc); rfl; rfl; intro b)
       | ((with_reducible apply G.store); rfl; rfl; rfl; rfl; rfl; rfl; (first | exact Rem.here | exact .there .here | exact .there (.there .here) | exact .there (.there (.there .here)) | exact .there (.there (.there (.there .here))) | exact .there (.there (.there (.there (.there .here)))) | exact .there (.there (.there (.there (.there (.there .here))))) | exact .there (.there (.there (.there (.there (.there (.there .here))))))); (exact Nat.le_of_ble_eq_true rfl); (repeat (first | exact StOk.nil | (refine StOk.keep ?_ ?_; (repeat (first | exact List.Mem.head _ | apply List.Mem.tail))) | refine StOk.gone (by kernel_rfl) ?_)); rfl)
       | ((with_reducible apply G.build); rfl; rfl; rfl) | ((with_reducible apply G.eqs); rfl; rfl; rfl; rfl; (kernel_rfl); (kernel_rfl)) | ((with_reducible apply G.nes); rfl; rfl; rfl; rfl; (kernel_rfl); (kernel_rfl))
       | ((with_reducible apply G.pure); rfl; rfl; rfl; rfl)
       | ((with_reducible apply G.split); rfl; rfl; rfl; all_goals intro h))
    | with_reducible apply RG.done | with_reducible apply Q.tn | with_reducible apply Q.tr | with_reducible apply Q.te | with_reducible apply Q.bn | with_reducible apply Q.br | with_reducible apply Q.be | ((with_reducible apply Q.bx); decide)
    | with_reducible apply SW.seq | with_reducible apply SW.block | with_reducible apply SW.ret | with_reducible apply SW.skip | with_reducible apply SW.exit
    | ((with_reducible apply SW.cond); rfl; all_goals intro h)
    | ((with_reducible apply SW.region0); kernel_rfl; rfl)
    | ((with_reducible apply SW.region1 [0, 1, 2, 3, 5, 7, 4, 6, 8, 9, 10, 11, 12, 13, 14, 15, 16, 17, 18, 19, 20, 21, 22, 23, 24, 25, 26, 27, 28, 29, 30, 31, 32, 33, 34, 35, 36, 37, 38]); rfl; kernel_rfl))
  all_goals ((first | refine Q.dret (.cons (.tmp rfl) .nil) ?_ | refine Q.dret (.cons (.cell rfl (by repeat (first | exact List.Mem.head _ | apply List.Mem.tail)) rfl) .nil) ?_ | refine Q.dret (.cons (.tmp rfl) (.cons (.tmp rfl) .nil)) ?_); cases a0 <;> cases b0 <;> (simp_all [tupV, right, above, rank, less]) <;> (try omega))

theorem KeyRanks_own : ownKnob Try.prog.godebug = none := by kernel_rfl
theorem KeyRanks_laid : laidOutB Try.prog = true := by kernel_rfl
set_option maxRecDepth 100000 in
theorem KeyRanks_lifted (os : Os) (started : os.Started) (H : Type) (enc : TypeId × Value → H) :
    ReturnsInHanded {} Try.checked os 4 .any (Rows.keyRanksSpec.pre6 enc Try.prog Try.f4 Rows.keyRanksRow.domain false) (Rows.keyRanksSpec.post enc Try.prog Try.f4 false true false false) := by
  refine returnsInHanded_of_change (C := Try.checked) KeyRanks_own started (by kernel_rfl) Try.func4
    (ChangeSpec.witness6 (enc := enc) (C := Try.checked) false ⟨#[], #[.agg #[.bool false, .int .u64 0, .int .u8 0], .agg #[.bool false, .int .u64 0, .int .u8 0]], []⟩ 8 (by kernel_rfl) (by kernel_rfl) (by kernel_rfl) (by kernel_rfl)) ?_
  intro W base args ds gs before hval0 hW _ _
  have hval : ∀ (j : Nat) t v, Try.f4.params[j]? = some t → args[j]? = some v → Value.okWide Try.prog W .any base t v := hval0
  have hW' := hW
  obtain ⟨p, q, hA0, hV, rfl, _, _⟩ := hW
  obtain ⟨rfl, rfl⟩ := trodVars_none hV
  have hA : DataW.TrodAll enc Try.prog W 0 (fun _ => true) true Try.f4.params.toList args.toList ds p := hA0
  rw [Try.params4] at hA hval
  obtain ⟨v0, v1, d0, d1, p0, p1, rfl, rfl, rfl, h0, h1⟩ := trodAll_two hA
  obtain ⟨l0, rfl, m0⟩ := open_agg 4 (ks := [.b, .i .u64, .i .u8]) (by kernel_rfl) (m := 3) (by kernel_rfl) (hval 0 24 _ rfl rfl) h0
  obtain ⟨x00, x01, x02, rfl, b01, b02⟩ := key_cells m0
  obtain ⟨l1, rfl, m1⟩ := open_agg 4 (ks := [.b, .i .u64, .i .u8]) (by kernel_rfl) (m := 3) (by kernel_rfl) (hval 1 24 _ rfl rfl) h1
  obtain ⟨x10, x11, x12, rfl, b11, b12⟩ := key_cells m1
  refine ((KeyRanks_dc x00 x01 x02 x10 x11 x12 b02 b01 b12 b11).run W).mono fun e W' ⟨he, hb⟩ => ?_
  subst he
  exact ⟨_, rfl, law_post KeyRanks_laid (by decide +kernel) rfl Try.underlying4 rfl (fun ds h => by match ds, h with | [d0, d1], _ => rfl) rfl hW' hb⟩

theorem KeyRanks_holds : Rows.KeyRanksSaid :=
  OpenClaim.holds_of_wide 4 Try.f4 rfl rfl rfl rfl rfl rfl rfl ⟨rfl, rfl, rfl, rfl, rfl⟩ rfl rfl rfl rfl rfl (by kernel_rfl) Try.func4 (by kernel_rfl)
    (of_decide_eq_true (by kernel_rfl)) (by unfold Func.isWrapper; first | (rw [if_pos (by decide +kernel)]; kernel_rfl) | (rw [if_neg (by decide +kernel)]; exact ⟨rfl, rfl⟩))
    (fun os started H enc _ => KeyRanks_lifted os started H enc)

end Go.Proofs.Ytogpbkhigmpajaa
