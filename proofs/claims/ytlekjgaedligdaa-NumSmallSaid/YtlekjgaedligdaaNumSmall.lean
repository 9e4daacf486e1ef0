/- NumSmall: the law holds of every input. -/
import Derived.Test.YtlekjgaedligdaaK3
import Derived.Test.YtlekjgaedligdaaSQ
namespace Go.Proofs.Ytlekjgaedligdaa
open Go Go.RowKit Bw Go.ChangeShapes Go.WideShapes Go.ChangeAt
set_option linter.unusedSimpArgs false
set_option linter.unusedVariables false
attribute [local irreducible] OC RC DC XC


theorem okI_u32 {n : Int} (h : okI .u32 n) : 0 ≤ n ∧ n < 4294967296 := by
  simp [okI, Lit.wf, IntKind.min, IntKind.max, IntKind.signed, IntKind.bits] at h; omega
theorem shl32 (a : Int) (h0 : 0 ≤ a) (h1 : a < 4294967296) : IntKind.u64.wrap (a * 2 ^ (min (Int.toNat 32) (IntKind.bits .u64))) = a * 4294967296 := by
  have e : (2 : Int) ^ (min (Int.toNat 32) (IntKind.bits .u64)) = 4294967296 := rfl
  rw [e]; exact u64_in _ (by omega) (by omega)
theorem or32 {a b : Int} (h0 : 0 ≤ a) (h1 : a < 4294967296) (h2 : 0 ≤ b) (h3 : b < 4294967296) : IntKind.u64.wrap ((BitVec.ofInt (IntKind.bits .u64) (a * 4294967296) ||| BitVec.ofInt (IntKind.bits .u64) b).toNat : Int) = a * 4294967296 + b := by
  obtain ⟨x, rfl⟩ := Int.eq_ofNat_of_zero_le h0
  obtain ⟨y, rfl⟩ := Int.eq_ofNat_of_zero_le h2
  have hb64 : IntKind.bits .u64 = 64 := rfl
  have e : (BitVec.ofInt (IntKind.bits .u64) ((x : Int) * 4294967296) ||| BitVec.ofInt (IntKind.bits .u64) (y : Int)).toNat = x * 4294967296 + y := by
    rw [BitVec.toNat_or, BitVec.toNat_ofInt, BitVec.toNat_ofInt, hb64]
    have g1 : ((x : Int) * 4294967296 % ((2 ^ 64 : Nat) : Int)).toNat = x * 4294967296 := by omega
    have g2 : ((y : Int) % ((2 ^ 64 : Nat) : Int)).toNat = y := by omega
    rw [g1, g2]
    exact or_nat 32 (by omega) (by omega)
  rw [e]; exact (u64_in _ (by omega) (by omega)).trans (by omega)
theorem shifts {k x : Int} (h0 : 0 ≤ k) (h1 : k < 64) (hx : U64 x) : ∃ P, U64 P ∧ IntKind.u64.wrap (1 * 2 ^ (min (Int.toNat k) (IntKind.bits .u64))) = P ∧ IntKind.u64.wrap (x * 2 ^ (min (Int.toNat k) (IntKind.bits .u64))) = x * P % 18446744073709551616 ∧ (0 < k → x.fdiv (2 ^ (min (Int.toNat (64 - k)) (IntKind.bits .u64))) = x * P / 18446744073709551616) ∧ (k = 0 → x * P / 18446744073709551616 = 0) := by
  obtain ⟨n, rfl⟩ := Int.eq_ofNat_of_zero_le h0
  have hb64 : IntKind.bits .u64 = 64 := rfl
  have e1 : min (Int.toNat (n : Int)) (IntKind.bits .u64) = n := by rw [hb64]; simp; omega
  have e2 : min (Int.toNat (64 - (n : Int))) (IntKind.bits .u64) = 64 - n := by rw [hb64]; omega
  have hp : (2 : Int) ^ n * 2 ^ (64 - n) = 18446744073709551616 := by
    rw [← Int.pow_add, show n + (64 - n) = 64 by omega]; rfl
  have hpos : (0 : Int) < 2 ^ n := Int.pow_pos (by decide)
  have hpos2 : (0 : Int) < 2 ^ (64 - n) := Int.pow_pos (by decide)
  have hlt : (2 : Int) ^ n < 18446744073709551616 := by
    have h2 : (2 : Int) ≤ 2 ^ (64 - n) := by
      obtain ⟨m, hm⟩ : ∃ m, 64 - n = m + 1 := ⟨63 - n, by omega⟩
      have hq : (0 : Int) < 2 ^ m := Int.pow_pos (by decide)
      rw [hm, Int.pow_succ]; omega
    have := Int.mul_le_mul_of_nonneg_left h2 (Int.le_of_lt hpos)
    omega
  refine ⟨2 ^ n, ⟨Int.le_of_lt hpos, hlt⟩, ?_, ?_, fun _ => ?_, fun hk => ?_⟩
  · rw [e1, Int.one_mul]; exact u64_in _ (Int.le_of_lt hpos) hlt
  · rw [e1, wrap64_mod]
  · rw [e2, Int.fdiv_eq_ediv_of_nonneg _ (Int.le_of_lt hpos2), ← hp, Int.mul_comm x, Int.mul_ediv_mul_of_pos _ _ hpos]
  · obtain rfl : n = 0 := by omega
    rw [Int.pow_zero, Int.mul_one]; have := hx.1; have := hx.2; omega

set_option maxHeartbeats 4000000 in
set_option maxRecDepth 4000 in
theorem NumSmall_rc (H : Hp) (a b n : Int) (ha : 0 ≤ a ∧ a < 4294967296) (hb : 0 ≤ b ∧ b < 4294967296) (hn : 0 ≤ n ∧ n < 256) : RC Try.prog 6 #[.int .u32 a, .int .u32 b, .int .u8 n] H (.bool true) := by
  obtain ⟨k, hk⟩ : ∃ k, n % 64 = k := ⟨_, rfl⟩
  have hk0 : 0 ≤ k := by omega
  have hk1 : k < 64 := by omega
  obtain ⟨x, hx⟩ : ∃ x, a * 4294967296 + b = x := ⟨_, rfl⟩
  have hxr : U64 x := ⟨by omega, by omega⟩
  have hx0 := shl32 a ha.1 ha.2
  have hx1 := or32 ha.1 ha.2 hb.1 hb.2
  rw [hx] at hx1
  obtain ⟨pw, hpr, hs1, hs2, hs3, hs4⟩ := shifts hk0 hk1 hxr
  have habr := mul_rng ha.1 (by omega : a ≤ 4294967295) hb.1 (by omega : b ≤ 4294967295)
  have hm1 := mul_dc a b ⟨ha.1, by omega⟩ ⟨hb.1, by omega⟩
  rw [Int.emod_eq_of_lt habr.1 (by omega), Int.ediv_eq_zero_of_lt habr.1 (by omega)] at hm1
  have hab : IntKind.u64.wrap (a * b) = a * b := u64_in _ habr.1 (by omega)
  have hm2 := mul_dc x pw hxr hpr
  rcases Int.lt_or_le 0 k with hkp | hkp
  case' inl => have hs3 := hs3 hkp
  case' inr => (have hk00 : k = 0 := by omega)
  case' inr => (have hs3 := hs4 hk00; rw [hs3] at hm2)
  all_goals (try unfold RC)
  all_goals (try unfold DC)
  all_goals refine OC.of_sw Try.func6 rfl Try.ntmps6 (Nat.le_of_ble_eq_true rfl) fun C => ?_
  repeat' (first
    | ((with_reducible apply G.at); rfl; first
       | ((with_reducible apply G.move); rfl; rfl) | ((with_reducible apply G.assign); rfl; rfl)
       | ((with_reducible apply G.load0); rfl; rfl; (focus (repeat (first | exact List.Mem.head _ | assumption | apply List.Mem.tail | apply mem_oH))); rfl) | ((with_reducible apply G.load1); rfl; rfl; (focus (repeat (first | exact List.Mem.head _ | assumption | apply List.Mem.tail | apply mem_oH))); rfl)
       | ((with_reducible apply G.faddrh (k := 0)); rfl; rfl; rfl) | ((with_reducible apply G.faddrh (k := 1)); rfl; rfl; rfl) | ((with_reducible apply G.faddrh (k := 2)); rfl; rfl; rfl) | ((with_reducible apply G.faddrh (k := 3)); rfl; rfl; rfl) | ((with_reducible apply G.faddrh (k := 4)); rfl; rfl; rfl) | ((with_reducible apply G.faddrh (k := 5)); rfl; rfl; rfl) | ((with_reducible apply G.faddrh (k := 6)); rfl; rfl; rfl) | ((with_reducible apply G.faddrh (k := 7)); rfl; rfl; rfl)
       | ((with_reducible apply G.shr); rfl; rfl; rfl; omega; exact hs3)
       | ((with_reducible apply G.shl); rfl; rfl; rfl; omega; first | exact hx0 | exact hs1 | exact hs2)
       | ((with_reducible apply G.remc); rfl; rfl; rfl; omega; omega; exact hk)
       | ((with_reducible apply G.rcall (f := 14)); rfl; rfl; exact Try.call14; exact live_dc.rc; (focus (repeat (first | exact StOk.nil | (refine StOk.keep ?_ ?_; (focus ((repeat (first | exact List.Mem.head _ | assumption | apply List.Mem.tail | apply mem_oH)); done))) | refine StOk.gone (by kernel_rfl) ?_))))
       | ((with_reducible apply G.dcall (f := 22)); rfl; rfl; exact Try.call22; exact hm1)
       | ((with_reducible apply G.dcall (f := 22)); rfl; rfl; exact Try.call22; exact hm2)
       | ((with_reducible apply G.nilck); rfl; rfl) | ((with_reducible apply G.extract); rfl; rfl; rfl) | ((with_reducible apply G.len); rfl; rfl; rfl) | ((with_reducible apply G.pick1); rfl; rfl; rfl) | ((with_reducible apply G.pick0); rfl; rfl; rfl) | ((with_reducible apply G.unw); rfl) | ((with_reducible apply G.unw0); rfl)
       | ((with_reducible apply G.boxa); rfl; rfl; intro b) | ((with_reducible apply G.box); rfl; rfl; intro b) | ((with_reducible apply G.alloc); rfl; rfl; rfl; intro b)
       | ((with_reducible apply G.store); rfl; rfl; rfl; rfl; rfl; rfl; (focus (repeat (first | assumption | exact Rem.here | apply Rem.there | apply Rem.oH))); (exact Nat.le_of_ble_eq_true rfl); (focus (repeat (first | exact StOk.nil | (refine StOk.keep ?_ ?_; (focus ((repeat (first | exact List.Mem.head _ | assumption | apply List.Mem.tail | apply mem_oH)); done))) | refine StOk.gone (by kernel_rfl) ?_))); rfl)
       | ((with_reducible apply G.build); rfl; rfl; rfl) | ((with_reducible apply G.eqs); rfl; rfl; rfl; rfl; (kernel_rfl); (kernel_rfl)) | ((with_reducible apply G.nes); rfl; rfl; rfl; rfl; (kernel_rfl); (kernel_rfl))
       | ((with_reducible apply G.num); rfl; rfl; rfl; rfl; rfl; (first | with_reducible exact hx0 | with_reducible exact hx1 | with_reducible exact hab | ((with_reducible apply shl8); omega; omega) | ((with_reducible apply shl16); omega; omega) | ((with_reducible apply or8); omega; omega; omega; omega) | ((with_reducible apply or16); omega; omega; omega; omega) | ((with_reducible apply or24); omega; omega; omega; omega; omega; omega) | ((with_reducible apply i64_in); omega; omega) | ((with_reducible apply wrap8_in); omega; omega) | ((with_reducible apply u64_in); omega; omega) | with_reducible exact shr16 _ | with_reducible exact shr8 _ | with_reducible exact wrap8_mod _ | with_reducible exact shr32u _ | ((with_reducible apply and32u); omega; omega) | with_reducible exact wrap64_mod _))
       | ((with_reducible apply G.min2); rfl; rfl; rfl; (first | (apply if_pos; omega) | (apply if_neg; omega) | rfl)) | ((with_reducible apply G.max2); rfl; rfl; rfl; (first | (apply if_pos; omega) | (apply if_neg; omega) | rfl))
       | ((with_reducible apply G.pure); rfl; rfl; rfl; rfl; rfl)
       | ((with_reducible apply G.known true); rfl; rfl; rfl; (focus (first | with_reducible rfl | ((with_reducible apply decide_eq_true); omega) | ((with_reducible apply decide_eq_false); omega) | ((with_reducible apply beq_iff_eq.2); omega) | ((with_reducible apply beq_eq_false_iff_ne.2); omega) | ((with_reducible apply bne_iff_ne.2); omega) | ((with_reducible apply bne_eq_false_iff_eq.2); omega) | ((with_reducible apply bnot_t); omega) | ((with_reducible apply bnot_f); omega) | ((with_reducible apply dnot_t); omega) | ((with_reducible apply dnot_f); omega) | (simp; done)))) | ((with_reducible apply G.known false); rfl; rfl; rfl; (focus (first | with_reducible rfl | ((with_reducible apply decide_eq_true); omega) | ((with_reducible apply decide_eq_false); omega) | ((with_reducible apply beq_iff_eq.2); omega) | ((with_reducible apply beq_eq_false_iff_ne.2); omega) | ((with_reducible apply bne_iff_ne.2); omega) | ((with_reducible apply bne_eq_false_iff_eq.2); omega) | ((with_reducible apply bnot_t); omega) | ((with_reducible apply bnot_f); omega) | ((with_reducible apply dnot_t); omega) | ((with_reducible apply dnot_f); omega) | (simp; done))))
       | ((with_reducible apply G.split); rfl; rfl; rfl; all_goals (intro h; first | replace h := beq_t h | replace h := beq_f h | replace h := bne_t h | replace h := bne_f h | replace h := of_decide_eq_true h | replace h := of_decide_eq_false h | skip)))
    | with_reducible apply RG.done | with_reducible apply Q.tn | with_reducible apply Q.tr | with_reducible apply Q.te | with_reducible apply Q.bn | with_reducible apply Q.br | with_reducible apply Q.be | ((with_reducible apply Q.bx); decide) | with_reducible apply Q.tp | with_reducible apply Q.bp
    | with_reducible apply SW.seq | with_reducible apply SW.block | with_reducible apply SW.ret | with_reducible apply SW.skip | with_reducible apply SW.exit
    | ((with_reducible apply SW.cond1); rfl; (focus (first | with_reducible rfl | ((with_reducible apply decide_eq_true); omega) | ((with_reducible apply decide_eq_false); omega) | ((with_reducible apply beq_iff_eq.2); omega) | ((with_reducible apply beq_eq_false_iff_ne.2); omega) | ((with_reducible apply bne_iff_ne.2); omega) | ((with_reducible apply bne_eq_false_iff_eq.2); omega) | ((with_reducible apply bnot_t); omega) | ((with_reducible apply bnot_f); omega) | ((with_reducible apply dnot_t); omega) | ((with_reducible apply dnot_f); omega) | (simp; done)))) | ((with_reducible apply SW.cond0); rfl; (focus (first | with_reducible rfl | ((with_reducible apply decide_eq_true); omega) | ((with_reducible apply decide_eq_false); omega) | ((with_reducible apply beq_iff_eq.2); omega) | ((with_reducible apply beq_eq_false_iff_ne.2); omega) | ((with_reducible apply bne_iff_ne.2); omega) | ((with_reducible apply bne_eq_false_iff_eq.2); omega) | ((with_reducible apply bnot_t); omega) | ((with_reducible apply bnot_f); omega) | ((with_reducible apply dnot_t); omega) | ((with_reducible apply dnot_f); omega) | (simp; done))))
    | ((with_reducible apply SW.cond); rfl; all_goals (intro h; first | replace h := beq_t h | replace h := beq_f h | replace h := bne_t h | replace h := bne_f h | replace h := of_decide_eq_true h | replace h := of_decide_eq_false h | skip))
    | ((with_reducible apply SW.region0); kernel_rfl; rfl))
  all_goals ((apply Q.rret (.cons (by first | exact .tmp rfl | exact .cell rfl (by repeat (first | exact List.Mem.head _ | apply List.Mem.tail)) rfl) .nil)); ((focus (repeat (first | exact Rems.all | exact Rems.nil | (apply Rems.own; (focus (repeat (first | exact OIn.here | apply OIn.there | apply OIn.over)))) | (apply Rems.cons; (focus (repeat (first | assumption | exact Rem.here | apply Rem.there | apply Rem.oH)))) | apply Rems.skip | apply Rems.oskip)))); (first | rfl | (simp [tupV]; done) | (simp [tupV]; omega)))

theorem NumSmall_own : ownKnob Try.prog.godebug = none := by kernel_rfl
theorem NumSmall_laid : laidOutB Try.prog = true := by kernel_rfl
set_option maxRecDepth 100000 in
theorem NumSmall_lifted (os : Os) (started : os.Started) (H : Type) (enc : TypeId × Value → H) :
    ReturnsInHanded {} Try.checked os 6 .any (Rows.numSmallSpec.pre6 enc Try.prog Try.f6 Rows.numSmallRow.domain false) (Rows.numSmallSpec.post enc Try.prog Try.f6 false true false false) := by
  refine returnsInHanded_of_change (C := Try.checked) NumSmall_own started (by kernel_rfl) Try.func6
    (ChangeSpec.witness6 (enc := enc) (C := Try.checked) false ⟨#[], #[.int .u32 0, .int .u32 0, .int .u8 0], []⟩ 8 (by kernel_rfl) (by kernel_rfl) (by kernel_rfl) (by kernel_rfl)) ?_
  intro W base args ds gs before hval0 hW _ _
  have hval : ∀ (j : Nat) t v, Try.f6.params[j]? = some t → args[j]? = some v → Value.okWide Try.prog W .any base t v := hval0
  have hW' := hW
  obtain ⟨p, q, hA0, hV, rfl, _, _⟩ := hW
  obtain ⟨rfl, rfl⟩ := trodVars_none hV
  have hA : DataW.TrodAll enc Try.prog W 0 (fun _ => true) true Try.f6.params.toList args.toList ds p := hA0
  rw [Try.params6] at hA hval
  obtain ⟨v0, v1, v2, d0, d1, d2, p0, p1, p2, rfl, rfl, rfl, h0, h1, h2⟩ := trodAll_three hA

  obtain ⟨x0, rfl, _, _, w0⟩ := open_int Try.underlying33 (hval 0 33 _ rfl rfl) h0
  obtain ⟨x1, rfl, _, _, w1⟩ := open_int Try.underlying33 (hval 1 33 _ rfl rfl) h1
  obtain ⟨x2, rfl, _, _, w2⟩ := open_int Try.underlying5 (hval 2 5 _ rfl rfl) h2
  refine (RC.run (NumSmall_rc [] x0 x1 x2 (okI_u32 w0) (okI_u32 w1) (okI_u8 w2)) RoIn.nil).mono fun e W' ⟨he, hb⟩ => ?_
  subst he
  exact ⟨_, rfl, law_post NumSmall_laid (by decide +kernel) rfl Try.underlying4 rfl (fun ds h => by match ds, h with | [d0, d1, d2], _ => rfl) rfl hW' hb⟩

theorem NumSmall_holds : Rows.NumSmallSaid :=
  OpenClaim.holds_of_wide 6 Try.f6 rfl rfl rfl rfl rfl rfl rfl ⟨rfl, rfl, rfl, rfl, rfl⟩ rfl rfl rfl rfl rfl (by kernel_rfl) Try.func6 (by kernel_rfl)
    (of_decide_eq_true (by kernel_rfl)) (by unfold Func.isWrapper; first | (rw [if_pos (by decide +kernel)]; kernel_rfl) | (rw [if_neg (by decide +kernel)]; exact ⟨rfl, rfl⟩))
    (fun os started H enc _ => NumSmall_lifted os started H enc)

end Go.Proofs.Ytlekjgaedligdaa
