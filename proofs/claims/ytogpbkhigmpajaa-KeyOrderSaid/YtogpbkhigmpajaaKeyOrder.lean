/- KeyOrder: the law holds of every input. -/
import Derived.Test.YtogpbkhigmpajaaK
namespace Go.Proofs.Ytogpbkhigmpajaa
open Go Go.RowKit Bw Go.ChangeShapes Go.WideShapes Go.ChangeAt

theorem above_trans {a b c : KV} (h1 : above a b = true) (h2 : above b c = true) : above a c = true := by
  obtain ⟨a0, a1, a2⟩ := a; obtain ⟨b0, b1, b2⟩ := b; obtain ⟨c0, c1, c2⟩ := c
  cases a0 <;> cases b0 <;> cases c0 <;> simp [above] at h1 h2 ⊢ <;> omega
theorem above_neg_trans {a b c : KV} (h1 : above b a = false) (h2 : above c b = false) : above c a = false := by
  obtain ⟨a0, a1, a2⟩ := a; obtain ⟨b0, b1, b2⟩ := b; obtain ⟨c0, c1, c2⟩ := c
  cases a0 <;> cases b0 <;> cases c0 <;> simp [above] at h1 h2 ⊢ <;> omega
theorem kmax_assoc (a b c : KV) : kmax (kmax a b) c = kmax a (kmax b c) := by
  unfold kmax
  cases h1 : above b a <;> cases h2 : above c b <;> simp [h1, h2]
  · intro h3; rw [above_neg_trans h1 h2] at h3; cases h3
  · intro h3; rw [above_trans h2 h1] at h3; cases h3
theorem kmax_comm {a b : KV} (ha : (!right a) = false) (hb : (!right b) = false) : kmax a b = kmax b a := by
  obtain ⟨a0, a1, a2⟩ := a; obtain ⟨b0, b1, b2⟩ := b
  cases a0 <;> cases b0 <;> simp [above, kmax, right] at ha hb ⊢ <;> (repeat' split) <;> simp_all <;> omega

set_option maxHeartbeats 400000 in
theorem KeyOrder_dc (a0 : Bool) (a1 a2 : Int) (b0 : Bool) (b1 b2 : Int) (c0 : Bool) (c1 c2 : Int) : DC Try.prog 5 #[.agg #[.bool a0, .int .u64 a1, .int .u8 a2, .bool b0, .int .u64 b1, .int .u8 b2, .bool c0, .int .u64 c1, .int .u8 c2]] (.bool true) := by
  refine OC.of_sw Try.func5 rfl Try.ntmps5 (Nat.le_of_ble_eq_true rfl) fun C => ?_
  repeat' (first
    | ((with_reducible apply G.at); rfl; first
       | ((with_reducible apply G.move); rfl; rfl) | ((with_reducible apply G.assign); rfl; rfl)
       | ((with_reducible apply G.load0); rfl; rfl; (repeat (first | exact List.Mem.head _ | apply List.Mem.tail)); rfl) | ((with_reducible apply G.load1); rfl; rfl; (repeat (first | exact List.Mem.head _ | apply List.Mem.tail)); rfl)
       | ((with_reducible apply G.faddrh (k := 0)); rfl; rfl; rfl) | ((with_reducible apply G.faddrh (k := 1)); rfl; rfl; rfl) | ((with_reducible apply G.faddrh (k := 2)); rfl; rfl; rfl) | ((with_reducible apply G.faddrh (k := 3)); rfl; rfl; rfl) | ((with_reducible apply G.faddrh (k := 4)); rfl; rfl; rfl) | ((with_reducible apply G.faddrh (k := 5)); rfl; rfl; rfl) | ((with_reducible apply G.faddrh (k := 6)); rfl; rfl; rfl) | ((with_reducible apply G.faddrh (k := 7)); rfl; rfl; rfl)
       | ((with_reducible apply G.iarr (j := 0)); rfl; rfl; rfl; rfl; rfl; decide) | ((with_reducible apply G.iarr (j := 1)); rfl; rfl; rfl; rfl; rfl; decide) | ((with_reducible apply G.iarr (j := 2)); rfl; rfl; rfl; rfl; rfl; decide)
       | ((with_reducible apply G.dcall (f := 9)); rfl; rfl; exact Try.call9; exact live_dc)
       | ((with_reducible apply G.dcall (f := 15)); rfl; rfl; exact Try.call15; exact (rright_dc _ _ _))
       | ((with_reducible apply G.dcall (f := 16)); rfl; rfl; exact Try.call16; exact (above_dc _ _ _ _ _ _))
       | ((with_reducible apply G.dcall (f := 19)); rfl; rfl; exact Try.call19; exact (kmax_dc _ _ _ _ _ _))
       | ((with_reducible apply G.nilck); rfl; rfl) | ((with_reducible apply G.extract); rfl; rfl; rfl) | ((with_reducible apply G.len); rfl; rfl; rfl) | ((with_reducible apply G.pick1); rfl; rfl; rfl) | ((with_reducible apply G.pick0); rfl; rfl; rfl) | ((with_reducible apply G.unw); rfl) | ((with_reducible apply G.unw0); rfl)
       | ((with_reducible apply G.boxa); rfl; rfl; intro b) | ((with_reducible apply G.box); rfl; rfl; intro b) | ((with_reducible apply G.alloc); rfl; rfl; rfl; intro b)
       | ((with_reducible apply G.store); rfl; rfl; rfl; rfl; rfl; rfl; (first | exact Rem.here | exact .there .here | exact .there (.there .here) | exact .there (.there (.there .here)) | exact .there (.there (.there (.there .here))) | exact .there (.there (.there (.there (.there .here)))) | exact .there (.there (.there (.there (.there (.there .here))))) | exact .there (.there (.there (.there (.there (.there (.there .here))))))); (exact Nat.le_of_ble_eq_true rfl); (repeat (first | exact StOk.nil | (refine StOk.keep ?_ ?_; (repeat (first | exact List.Mem.head _ | apply List.Mem.tail))) | refine StOk.gone (by kernel_rfl) ?_)); rfl)
       | ((with_reducible apply G.build); rfl; rfl; rfl) | ((with_reducible apply G.eqs); rfl; rfl; rfl; rfl; (kernel_rfl); (kernel_rfl)) | ((with_reducible apply G.nes); rfl; rfl; rfl; rfl; (kernel_rfl); (kernel_rfl))
       | ((with_reducible apply G.pure); rfl; rfl; rfl; rfl; rfl)
       | ((with_reducible apply G.split); rfl; rfl; rfl; all_goals intro h))
    | with_reducible apply RG.done | with_reducible apply Q.tn | with_reducible apply Q.tr | with_reducible apply Q.te | with_reducible apply Q.bn | with_reducible apply Q.br | with_reducible apply Q.be | ((with_reducible apply Q.bx); decide)
    | with_reducible apply SW.seq | with_reducible apply SW.block | with_reducible apply SW.ret | with_reducible apply SW.skip | with_reducible apply SW.exit
    | ((with_reducible apply SW.cond1); rfl; exact (by rfl)) | ((with_reducible apply SW.cond0); rfl; exact (by rfl))
    | ((with_reducible apply SW.cond); rfl; all_goals intro h)
    | ((with_reducible apply SW.region0); kernel_rfl; rfl)
    | ((with_reducible apply SW.region1 (id := 1) [0, 1, 2, 3, 4, 5, 6, 7, 8, 9, 10, 11]); rfl; kernel_rfl)
    | ((with_reducible apply SW.region1 (id := 6) [0, 1, 2, 3, 5, 7, 8, 9, 4, 6, 10, 11, 12, 13, 14, 15, 16, 18, 19, 17, 20, 21, 22, 23]); rfl; kernel_rfl))
  all_goals (first | refine Q.dret (.cons (.tmp rfl) .nil) ?_ | refine Q.dret (.cons (.cell rfl (by repeat (first | exact List.Mem.head _ | apply List.Mem.tail)) rfl) .nil) ?_ | refine Q.dret (.cons (.tmp rfl) (.cons (.tmp rfl) .nil)) ?_)
  all_goals first
    | rfl
    | (have e1 := ‹above (a0, a1, a2) (b0, b1, b2) = true›; have e2 := ‹above (b0, b1, b2) (c0, c1, c2) = true›; have e3 := above_trans e1 e2; simp_all; done)
    | (have e1 := ‹(!right (a0, a1, a2)) = false›; have e2 := ‹(!right (b0, b1, b2)) = false›; have e3 := kmax_comm e1 e2; have e4 := kmax_assoc (a0, a1, a2) (b0, b1, b2) (c0, c1, c2); simp [tupV, e3]; done)
    | (exfalso; have e4 := kmax_assoc (a0, a1, a2) (b0, b1, b2) (c0, c1, c2); rename_i h; simp [e4] at h; done)

theorem KeyOrder_own : ownKnob Try.prog.godebug = none := by kernel_rfl
theorem KeyOrder_laid : laidOutB Try.prog = true := by kernel_rfl
set_option maxRecDepth 100000 in
theorem KeyOrder_lifted (os : Os) (started : os.Started) (H : Type) (enc : TypeId × Value → H) :
    ReturnsInHanded {} Try.checked os 5 .any (Rows.keyOrderSpec.pre6 enc Try.prog Try.f5 Rows.keyOrderRow.domain false) (Rows.keyOrderSpec.post enc Try.prog Try.f5 false true false false) := by
  refine returnsInHanded_of_change (C := Try.checked) KeyOrder_own started (by kernel_rfl) Try.func5
    (ChangeSpec.witness6 (enc := enc) (C := Try.checked) false ⟨#[], #[.agg #[.bool false, .int .u64 0, .int .u8 0, .bool false, .int .u64 0, .int .u8 0, .bool false, .int .u64 0, .int .u8 0]], []⟩ 8 (by kernel_rfl) (by kernel_rfl) (by kernel_rfl) (by kernel_rfl)) ?_
  intro W base args ds gs before hval0 hW _ _
  have hval : ∀ (j : Nat) t v, Try.f5.params[j]? = some t → args[j]? = some v → Value.okWide Try.prog W .any base t v := hval0
  have hW' := hW
  obtain ⟨p, q, hA0, hV, rfl, _, _⟩ := hW
  obtain ⟨rfl, rfl⟩ := trodVars_none hV
  have hA : DataW.TrodAll enc Try.prog W 0 (fun _ => true) true Try.f5.params.toList args.toList ds p := hA0
  rw [Try.params5] at hA hval
  obtain ⟨v0, d0, rfl, rfl, h0⟩ := trodAll_one hA
  obtain ⟨l0, rfl, m0⟩ := open_agg 6 (ks := [.b, .i .u64, .i .u8, .b, .i .u64, .i .u8, .b, .i .u64, .i .u8]) (by kernel_rfl) (m := 9) (by kernel_rfl) (hval 0 35 _ rfl rfl) h0
  obtain ⟨x00, x01, x02, x10, x11, x12, x20, x21, x22, rfl⟩ := key_cells3 m0
  refine ((KeyOrder_dc x00 x01 x02 x10 x11 x12 x20 x21 x22).run W).mono fun e W' ⟨he, hb⟩ => ?_
  subst he
  exact ⟨_, rfl, law_post KeyOrder_laid (by decide +kernel) rfl Try.underlying4 rfl (fun ds h => by match ds, h with | [d0], _ => rfl) rfl hW' hb⟩

theorem KeyOrder_holds : Rows.KeyOrderSaid :=
  OpenClaim.holds_of_wide 5 Try.f5 rfl rfl rfl rfl rfl rfl rfl ⟨rfl, rfl, rfl, rfl, rfl⟩ rfl rfl rfl rfl rfl (by kernel_rfl) Try.func5 (by kernel_rfl)
    (of_decide_eq_true (by kernel_rfl)) (by unfold Func.isWrapper; first | (rw [if_pos (by decide +kernel)]; kernel_rfl) | (rw [if_neg (by decide +kernel)]; exact ⟨rfl, rfl⟩))
    (fun os started H enc _ => KeyOrder_lifted os started H enc)

end Go.Proofs.Ytogpbkhigmpajaa
