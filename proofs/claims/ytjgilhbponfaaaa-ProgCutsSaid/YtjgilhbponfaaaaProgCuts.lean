/- ProgCuts: the law holds of every input. -/
import Derived.Test.YtjgilhbponfaaaaE
namespace Go.Proofs.Ytjgilhbponfaaaa
open Go Go.RowKit Bw Go.ChangeShapes Go.WideShapes Go.ChangeAt
attribute [local irreducible] OC RC DC XC


theorem few_q {a : Option Addr} {n c q : Nat} (hn : n ≤ c) (hq : q = min n 100) : DC Try.prog 12 #[.slice a n c] (.slice a q c) := by subst hq; exact few_dc a n c hn
theorem flat_one {α β : Type} {f : α → β} (l : List α) : (l.map fun x => [f x]).flatten = l.map f := by
  induction l with
  | nil => rfl
  | cons x l ih => simp [ih]
theorem bytes_take {L : List Int} (k : Nat) : bytesV (L.take k) = (bytesV L).take k := by simp [bytesV, List.map_take]
theorem one_bytes (l : List Int) : oneB (bytesV l) = true := by
  induction l with
  | nil => rfl
  | cons x l ih => simpa [bytesV, oneB, Value.oneCell'] using ih
theorem bytes_len (l : List Int) : (bytesV l).length = l.length := by simp [bytesV]
theorem byte_all {L : List Int} {k : Nat} (h : ∀ y ∈ L, okI .u8 y) : ∀ x ∈ L.take k, Byte x := fun x hx => okI_u8 (h x (List.mem_of_mem_take hx))
theorem okI_u16 {n : Int} (h : okI .u16 n) : 0 ≤ n ∧ n < 65536 := by
  simp [okI, Lit.wf, IntKind.min, IntKind.max, IntKind.signed, IntKind.bits] at h; omega

set_option maxHeartbeats 4000000 in
set_option maxRecDepth 4000 in
theorem ProgCuts_rc (H : Hp) (a : Option Addr) (n c : Nat) (l : List IV) (hn : n ≤ c) (hl : l.length = min n 100) (hs : Has H a (cellsI l)) (x : Int) (hx0 : 0 ≤ x) (hx1 : x < 65536) : RC Try.prog 10 #[.slice a n c, .int .u16 x] H (.bool true) := by
  by_cases hz : (chk l).1 = 0
  case' neg => (have h3 : (chk l).1 = 3 := by (rcases chk_cases l with h | h; exact absurd h.1 hz; exact h))
  case' pos => (obtain ⟨hpos, h64, hall, hend⟩ := chk_ok hz; obtain ⟨k, hk⟩ : ∃ k : Nat, x % ((1 + 4 * l.length : Nat) : Int) = k := ⟨(x % ((1 + 4 * l.length : Nat) : Int)).toNat, by have := Int.emod_nonneg x (b := ((1 + 4 * l.length : Nat) : Int)) (by omega); omega⟩; have hk0 : k < 1 + 4 * l.length := (by have := Int.emod_lt_of_pos x (b := ((1 + 4 * l.length : Nat) : Int)) (by omega); omega); have hk1 : ((enc l).take k).length = k := (by rw [List.length_take, enc_len]; omega); have hk2 : k < (enc l).length := (by rw [enc_len]; omega); have hb9 : ∀ y ∈ enc l ++ [9], Byte y := (fun y hy => (List.mem_append.1 hy).elim (enc_bytes hz y) (fun h => by rw [List.mem_singleton.1 h]; exact ⟨by decide, by decide⟩)))
  all_goals (try unfold RC)
  all_goals (try unfold DC)
  all_goals refine OC.of_sw Try.func10 rfl Try.ntmps10 (Nat.le_of_ble_eq_true rfl) fun C => ?_
  repeat' (first
    | ((with_reducible apply G.at); rfl; first
       | ((with_reducible apply G.move); rfl; rfl) | ((with_reducible apply G.assign); rfl; rfl)
       | ((with_reducible apply G.load0); rfl; rfl; (focus (repeat (first | exact List.Mem.head _ | assumption | apply List.Mem.tail | apply mem_oH))); rfl) | ((with_reducible apply G.load1); rfl; rfl; (focus (repeat (first | exact List.Mem.head _ | assumption | apply List.Mem.tail | apply mem_oH))); rfl)
       | ((with_reducible apply G.faddrh (k := 0)); rfl; rfl; rfl) | ((with_reducible apply G.faddrh (k := 1)); rfl; rfl; rfl) | ((with_reducible apply G.faddrh (k := 2)); rfl; rfl; rfl) | ((with_reducible apply G.faddrh (k := 3)); rfl; rfl; rfl) | ((with_reducible apply G.faddrh (k := 4)); rfl; rfl; rfl) | ((with_reducible apply G.faddrh (k := 5)); rfl; rfl; rfl) | ((with_reducible apply G.faddrh (k := 6)); rfl; rfl; rfl) | ((with_reducible apply G.faddrh (k := 7)); rfl; rfl; rfl)
       | ((with_reducible apply G.bslice); rfl; rfl; intro b)
       | ((with_reducible apply G.rem); rfl; rfl; rfl; omega; (first | omega | (simp; omega)))
       | ((with_reducible apply G.slice_h (h := k)); rfl; rfl; rfl; rfl; (first | exact hk | rfl | omega); (first | assumption | omega))
       | ((with_reducible apply G.appendB (size := 1) (bytes := 1) (cs' := bytesV (enc l)) (n' := (1 + 4 * l.length))); rfl; rfl; rfl; rfl; rfl; (focus (repeat (first | assumption | exact Rem.here | apply Rem.there | apply Rem.oH))); (focus (first | rfl | assumption)); (focus (first | rfl | assumption)); (first | assumption | exact Nat.zero_le _ | exact Nat.le_refl _ | omega); (focus (repeat (first | assumption | exact Has.row (List.Mem.head _) | (apply Has.mine; assumption) | apply Has.tail | apply Has.oH | exact Has.nil))); (focus (rw [bytes_len, enc_len, Nat.mul_one])); (focus (exact one_bytes _)); (first | rfl | omega); (focus (rfl)); (focus (first | omega | (simp; omega))); (focus (first | omega | (simp; omega))); (focus (repeat (first | exact StOk.nil | (refine StOk.keep ?_ ?_; (focus ((repeat (first | exact List.Mem.head _ | assumption | apply List.Mem.tail | apply mem_oH)); done))) | refine StOk.gone (by kernel_rfl) ?_))); (intro b' cap' r' hb' hr'))
       | ((with_reducible apply G.appendB (size := 1) (bytes := 1) (cs' := bytesV (enc l ++ [9])) (n' := (1 + 4 * l.length + 1))); rfl; rfl; rfl; rfl; rfl; (focus (repeat (first | assumption | exact Rem.here | apply Rem.there | apply Rem.oH))); (focus (first | assumption | (rw [bytes_len, enc_len, Nat.mul_one]))); (focus (first | assumption | (rw [bytes_len, enc_len, Nat.mul_one]))); (first | assumption | exact Nat.zero_le _ | exact Nat.le_refl _ | omega); (focus (repeat (first | assumption | exact Has.row (List.Mem.head _) | (apply Has.mine; assumption) | apply Has.tail | apply Has.oH | exact Has.nil))); (focus (rfl)); (focus (rfl)); (first | rfl | omega); (focus (simp [bytesV])); (focus (first | omega | (simp; omega))); (focus (first | omega | (simp; omega))); (focus (repeat (first | exact StOk.nil | (refine StOk.keep ?_ ?_; (focus ((repeat (first | exact List.Mem.head _ | assumption | apply List.Mem.tail | apply mem_oH)); done))) | refine StOk.gone (by kernel_rfl) ?_))); (intro b' cap' r' hb' hr'))
       | ((with_reducible apply G.dcall (f := 12)); rfl; rfl; exact Try.call12; exact few_q (q := l.length) hn hl)
       | ((with_reducible apply G.rcall (f := 15)); rfl; rfl; exact Try.call15; exact live_dc.rc; (focus (repeat (first | exact StOk.nil | (refine StOk.keep ?_ ?_; (focus ((repeat (first | exact List.Mem.head _ | assumption | apply List.Mem.tail | apply mem_oH)); done))) | refine StOk.gone (by kernel_rfl) ?_))))
       | ((with_reducible apply G.hcall (f := 19)); rfl; rfl; exact Try.call19; ((apply encode_ok (l := l)); (focus (repeat (first | assumption | exact Has.row (List.Mem.head _) | (apply Has.mine; assumption) | apply Has.tail | apply Has.oH | exact Has.nil))); first | exact hz | assumption); (intro _ _ _; exact StOk.nil); (rintro _ _ ⟨eb, ec, er, rfl, rfl, hc1, hc2⟩))
       | ((with_reducible apply G.rcall (f := 19)); rfl; rfl; exact Try.call19; ((apply encode_bad (l := l)); (focus (repeat (first | assumption | exact Has.row (List.Mem.head _) | (apply Has.mine; assumption) | apply Has.tail | apply Has.oH | exact Has.nil))); first | exact hz | assumption); (focus (repeat (first | exact StOk.nil | (refine StOk.keep ?_ ?_; (focus ((repeat (first | exact List.Mem.head _ | assumption | apply List.Mem.tail | apply mem_oH)); done))) | refine StOk.gone (by kernel_rfl) ?_))))
       | ((with_reducible apply G.hcall (f := 21)); rfl; rfl; exact Try.call21; ((apply decode_n (bs := (enc l).take k) hk1); (focus (rw [bytes_take]; apply Has.take; (focus (repeat (first | assumption | exact Has.row (List.Mem.head _) | (apply Has.mine; assumption) | apply Has.tail | apply Has.oH | exact Has.nil))))); exact (fun x hx => enc_bytes hz x (List.mem_of_mem_take hx)); (first | assumption | omega)); (intro _ _ _; exact StOk.nil); (rintro _ _ (⟨hd0, rfl, rfl⟩ | ⟨p0, v0, hd0, rfl, rfl, ho0⟩) <;> rw [dec_cut hk2] at hd0 <;> cases hd0))
       | ((with_reducible apply G.hcall (f := 21)); rfl; rfl; exact Try.call21; ((apply decode_n (bs := enc l ++ [9]) (k := 1 + 4 * l.length + 1) (by simp [enc_len])); (focus (repeat (first | assumption | exact Has.row (List.Mem.head _) | (apply Has.mine; assumption) | apply Has.tail | apply Has.oH | exact Has.nil))); exact hb9; (first | assumption | omega)); (intro _ _ _; exact StOk.nil); (rintro _ _ (⟨hd1, rfl, rfl⟩ | ⟨p2, v2, hd1, rfl, rfl, ho2⟩) <;> rw [dec_more] at hd1 <;> cases hd1))
       | ((with_reducible apply G.nilck); rfl; rfl) | ((with_reducible apply G.extract); rfl; rfl; rfl) | ((with_reducible apply G.len); rfl; rfl; rfl) | ((with_reducible apply G.pick1); rfl; rfl; rfl) | ((with_reducible apply G.pick0); rfl; rfl; rfl) | ((with_reducible apply G.unw); rfl) | ((with_reducible apply G.unw0); rfl)
       | ((with_reducible apply G.boxa); rfl; rfl; intro b) | ((with_reducible apply G.box); rfl; rfl; intro b) | ((with_reducible apply G.alloc); rfl; rfl; rfl; intro b)
       | ((with_reducible apply G.store); rfl; rfl; rfl; rfl; rfl; rfl; (focus (repeat (first | assumption | exact Rem.here | apply Rem.there | apply Rem.oH))); (exact Nat.le_of_ble_eq_true rfl); (focus (repeat (first | exact StOk.nil | (refine StOk.keep ?_ ?_; (focus ((repeat (first | exact List.Mem.head _ | assumption | apply List.Mem.tail | apply mem_oH)); done))) | refine StOk.gone (by kernel_rfl) ?_))); rfl)
       | ((with_reducible apply G.build); rfl; rfl; rfl) | ((with_reducible apply G.eqs); rfl; rfl; rfl; rfl; (kernel_rfl); (kernel_rfl)) | ((with_reducible apply G.nes); rfl; rfl; rfl; rfl; (kernel_rfl); (kernel_rfl))
       | ((with_reducible apply G.num); rfl; rfl; rfl; rfl; rfl; (first | with_reducible exact shl8 _ (by omega) (by omega) | with_reducible exact shl16 _ (by omega) (by omega) | with_reducible exact or8 (by omega) (by omega) (by omega) (by omega) | with_reducible exact or16 (by omega) (by omega) (by omega) (by omega) | with_reducible exact or24 (by omega) (by omega) (by omega) (by omega) (by omega) (by omega) | with_reducible exact i64_in _ (by omega) (by omega) | with_reducible exact wrap8_in _ (by omega) (by omega) | with_reducible exact u64_in _ (by omega) (by omega) | with_reducible exact shr16 _ | with_reducible exact shr8 _ | with_reducible exact wrap8_mod _))
       | ((with_reducible apply G.pure); rfl; rfl; rfl; rfl; rfl)
       | ((with_reducible apply G.known true); rfl; rfl; rfl; (focus (first | rfl | (simp; done) | exact decide_eq_true (by omega) | exact decide_eq_false (by omega) | (simp_all; done) | (simp [h3]; done)))) | ((with_reducible apply G.known false); rfl; rfl; rfl; (focus (first | rfl | (simp; done) | exact decide_eq_true (by omega) | exact decide_eq_false (by omega) | (simp_all; done) | (simp [h3]; done))))
       | ((with_reducible apply G.split); rfl; rfl; rfl; all_goals (intro h; first | replace h := beq_t h | replace h := beq_f h | replace h := bne_t h | replace h := bne_f h | replace h := of_decide_eq_true h | replace h := of_decide_eq_false h | skip)))
    | with_reducible apply RG.done | with_reducible apply Q.tn | with_reducible apply Q.tr | with_reducible apply Q.te | with_reducible apply Q.bn | with_reducible apply Q.br | with_reducible apply Q.be | ((with_reducible apply Q.bx); decide) | with_reducible apply Q.tp | with_reducible apply Q.bp
    | with_reducible apply SW.seq | with_reducible apply SW.block | with_reducible apply SW.ret | with_reducible apply SW.skip | with_reducible apply SW.exit
    | ((with_reducible apply SW.cond1); rfl; (focus (first | rfl | (simp; done) | exact decide_eq_true (by omega) | exact decide_eq_false (by omega) | (simp_all; done) | (simp [h3]; done)))) | ((with_reducible apply SW.cond0); rfl; (focus (first | rfl | (simp; done) | exact decide_eq_true (by omega) | exact decide_eq_false (by omega) | (simp_all; done) | (simp [h3]; done))))
    | ((with_reducible apply SW.cond); rfl; all_goals (intro h; first | replace h := beq_t h | replace h := beq_f h | replace h := bne_t h | replace h := bne_f h | replace h := of_decide_eq_true h | replace h := of_decide_eq_false h | skip))
    | ((with_reducible apply SW.region0); kernel_rfl; rfl))
  all_goals ((apply Q.rret (.cons (by first | exact .tmp rfl | exact .cell rfl (by repeat (first | exact List.Mem.head _ | apply List.Mem.tail)) rfl) .nil)); ((focus (repeat (first | exact Rems.all | exact Rems.nil | (apply Rems.own; (focus (repeat (first | exact OIn.here | apply OIn.there | apply OIn.over)))) | (apply Rems.cons; (focus (repeat (first | assumption | exact Rem.here | apply Rem.there | apply Rem.oH)))) | apply Rems.skip | apply Rems.oskip)))); (first | rfl | (simp [tupV]; done) | (simp [tupV, h3]; done)))

theorem ProgCuts_own : ownKnob Try.prog.godebug = none := by kernel_rfl
theorem ProgCuts_laid : laidOutB Try.prog = true := by kernel_rfl
set_option maxRecDepth 100000 in
theorem ProgCuts_lifted (os : Os) (started : os.Started) (H : Type) (enc : TypeId × Value → H) :
    ReturnsInHanded {} Try.checked os 10 .any (Rows.progCutsSpec.pre6 enc Try.prog Try.f10 Rows.progCutsRow.domain false) (Rows.progCutsSpec.post enc Try.prog Try.f10 false true false false) := by
  refine returnsInHanded_of_change (C := Try.checked) ProgCuts_own started (by kernel_rfl) Try.func10
    (ChangeSpec.witness6 (enc := enc) (C := Try.checked) false ⟨#[], #[.slice none 0 0, .int .u16 0], []⟩ 8 (by kernel_rfl) (by kernel_rfl) (by kernel_rfl) (by kernel_rfl)) ?_
  intro W base args ds gs before hval0 hW _ _
  have hval : ∀ (j : Nat) t v, Try.f10.params[j]? = some t → args[j]? = some v → Value.okWide Try.prog W .any base t v := hval0
  have hW' := hW
  obtain ⟨p, q, hA0, hV, rfl, _, _⟩ := hW
  obtain ⟨rfl, rfl⟩ := trodVars_none hV
  have hA : DataW.TrodAll enc Try.prog W 0 (fun _ => true) true Try.f10.params.toList args.toList ds p := hA0
  rw [Try.params10] at hA hval
  obtain ⟨v0, v1, d0, d1, p0, p1, rfl, rfl, rfl, h0, h1⟩ := trodAll_two hA

  obtain ⟨a0, n0, c0, Hc0, els0, rfl, q01, q02, q03, q04, q05, q06, q07⟩ := open_slice Try.underlying22 4 (ks := [.i .i64, .i .i64]) (by kernel_rfl) (by kernel_rfl) (by decide) (hval 0 22 _ rfl rfl) h0
  obtain ⟨L0, rfl, hL0⟩ := pairs_of q04
  have s0 : Has Hc0 a0 (cellsI L0) := q05
  rw [List.length_map] at q01
  obtain ⟨x1, rfl, _, _, w1⟩ := open_int Try.underlying45 (hval 1 45 _ rfl rfl) h1
  refine (RC.run (ProgCuts_rc Hc0 a0 n0 c0 (L0.take (min n0 100)) q02 (by rw [List.length_take]; omega) (by rw [cells_take]; exact s0.take _) x1 (okI_u16 w1).1 (okI_u16 w1).2) q06).mono fun e W' ⟨he, hb⟩ => ?_
  subst he
  exact ⟨_, rfl, law_post ProgCuts_laid (by decide +kernel) rfl Try.underlying4 rfl (fun ds h => by match ds, h with | [d0, d1], _ => rfl) rfl hW' hb⟩

theorem ProgCuts_holds : Rows.ProgCutsSaid :=
  OpenClaim.holds_of_wide 10 Try.f10 rfl rfl rfl rfl rfl rfl rfl ⟨rfl, rfl, rfl, rfl, rfl⟩ rfl rfl rfl rfl rfl (by kernel_rfl) Try.func10 (by kernel_rfl)
    (of_decide_eq_true (by kernel_rfl)) (by unfold Func.isWrapper; first | (rw [if_pos (by decide +kernel)]; kernel_rfl) | (rw [if_neg (by decide +kernel)]; exact ⟨rfl, rfl⟩))
    (fun os started H enc _ => ProgCuts_lifted os started H enc)

end Go.Proofs.Ytjgilhbponfaaaa
