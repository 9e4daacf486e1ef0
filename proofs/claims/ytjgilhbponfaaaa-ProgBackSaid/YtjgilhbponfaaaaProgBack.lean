/- ProgBack: the law holds of every input. -/
import Derived.Test.YtjgilhbponfaaaaE
namespace Go.Proofs.Ytjgilhbponfaaaa
open Go Go.RowKit Bw Go.ChangeShapes Go.WideShapes Go.ChangeAt
attribute [local irreducible] OC RC DC XC


theorem few_q {a : Option Addr} {n c q : Nat} (hn : n ≤ c) (hq : q = min n 100) : DC Try.prog 12 #[.slice a n c] (.slice a q c) := by subst hq; exact few_dc a n c hn
theorem flat_one {α β : Type} {f : α → β} (l : List α) : (l.map fun x => [f x]).flatten = l.map f := by
  induction l with
  | nil => rfl
  | cons x l ih => simp [ih]
theorem bytes_take {L : List Int} (k : Nat) : bytesV (L.take k) = (bytesV L).take k := by simp [bytesV, List.map_take]
theorem one_bytes (l : List Int) : oneB (bytesV l) = true := by
  induction l with
  | nil => rfl
  | cons x l ih => simpa [bytesV, oneB, Value.oneCell'] using ih
theorem bytes_len (l : List Int) : (bytesV l).length = l.length := by simp [bytesV]
theorem byte_all {L : List Int} {k : Nat} (h : ∀ y ∈ L, okI .u8 y) : ∀ x ∈ L.take k, Byte x := fun x hx => okI_u8 (h x (List.mem_of_mem_take hx))

set_option maxHeartbeats 4000000 in
set_option maxRecDepth 4000 in
theorem ProgBack_rc (H : Hp) (a : Option Addr) (n c : Nat) (l : List IV) (hn : n ≤ c) (hl : l.length = min n 100) (hs : Has H a (cellsI l)) (a' : Option Addr) (n' c' : Nat) (bs : List Int) (hbl : bs.length = n') (hs' : Has H a' (bytesV bs)) (hb : ∀ x ∈ bs, Byte x) (hbc : n' ≤ c') (hb47 : c' ≤ 140737488355328) : RC Try.prog 9 #[.slice a n c, .slice a' n' c'] H (.bool true) := by
  subst hbl
  have _ := hb47
  by_cases hz : (chk l).1 = 0
  all_goals (try unfold RC)
  all_goals (try unfold DC)
  all_goals refine OC.of_sw Try.func9 rfl Try.ntmps9 (Nat.le_of_ble_eq_true rfl) fun C => ?_
  repeat' (first
    | ((with_reducible apply G.at); rfl; first
       | ((with_reducible apply G.move); rfl; rfl) | ((with_reducible apply G.assign); rfl; rfl)
       | ((with_reducible apply G.load0); rfl; rfl; (focus (repeat (first | exact List.Mem.head _ | assumption | apply List.Mem.tail | apply mem_oH))); rfl) | ((with_reducible apply G.load1); rfl; rfl; (focus (repeat (first | exact List.Mem.head _ | assumption | apply List.Mem.tail | apply mem_oH))); rfl)
       | ((with_reducible apply G.faddrh (k := 0)); rfl; rfl; rfl) | ((with_reducible apply G.faddrh (k := 1)); rfl; rfl; rfl) | ((with_reducible apply G.faddrh (k := 2)); rfl; rfl; rfl) | ((with_reducible apply G.faddrh (k := 3)); rfl; rfl; rfl) | ((with_reducible apply G.faddrh (k := 4)); rfl; rfl; rfl) | ((with_reducible apply G.faddrh (k := 5)); rfl; rfl; rfl) | ((with_reducible apply G.faddrh (k := 6)); rfl; rfl; rfl) | ((with_reducible apply G.faddrh (k := 7)); rfl; rfl; rfl)
       | ((with_reducible apply G.bslice); rfl; rfl; intro b)
       | ((with_reducible apply G.bstr); rfl; rfl; rfl; rfl; rfl; (focus (repeat (first | assumption | exact Has.row (List.Mem.head _) | (apply Has.mine; assumption) | apply Has.tail | apply Has.oH | exact Has.nil))); (focus (first | rfl | assumption | (exact enc_len _) | omega | (simp; omega))))
       | ((with_reducible apply G.bstr (ns := [])); rfl; rfl; rfl; rfl; rfl; exact Has.nil; rfl)
       | ((with_reducible apply G.dcall (f := 12)); rfl; rfl; exact Try.call12; exact few_q (q := l.length) hn hl)
       | ((with_reducible apply G.rcall (f := 15)); rfl; rfl; exact Try.call15; exact live_dc.rc; (focus (repeat (first | exact StOk.nil | (refine StOk.keep ?_ ?_; (focus ((repeat (first | exact List.Mem.head _ | assumption | apply List.Mem.tail | apply mem_oH)); done))) | refine StOk.gone (by kernel_rfl) ?_))))
       | ((with_reducible apply G.hcall (f := 19)); rfl; rfl; exact Try.call19; ((apply encode_ok (l := l)); (focus (repeat (first | assumption | exact Has.row (List.Mem.head _) | (apply Has.mine; assumption) | apply Has.tail | apply Has.oH | exact Has.nil))); first | exact hz | assumption); (intro _ _ _; exact StOk.nil); (rintro _ _ ⟨eb, ec, er, rfl, rfl, hc1, hc2⟩))
       | ((with_reducible apply G.rcall (f := 19)); rfl; rfl; exact Try.call19; ((apply encode_bad (l := l)); (focus (repeat (first | assumption | exact Has.row (List.Mem.head _) | (apply Has.mine; assumption) | apply Has.tail | apply Has.oH | exact Has.nil))); first | exact hz | assumption); (focus (repeat (first | exact StOk.nil | (refine StOk.keep ?_ ?_; (focus ((repeat (first | exact List.Mem.head _ | assumption | apply List.Mem.tail | apply mem_oH)); done))) | refine StOk.gone (by kernel_rfl) ?_))))
       | ((with_reducible apply G.hcall (f := 19)); rfl; rfl; exact Try.call19; ((apply encode_ok (l := p1)); (focus (repeat (first | assumption | exact Has.row (List.Mem.head _) | (apply Has.mine; assumption) | apply Has.tail | apply Has.oH | exact Has.nil))); exact dec_ok hd); (intro _ _ _; exact StOk.nil); (rintro _ _ ⟨eb2, ec2, er2, rfl, rfl, hd1, hd2⟩))
       | ((with_reducible apply G.hcall (f := 21)); rfl; rfl; exact Try.call21; ((apply decode_n (bs := enc l) (enc_len l)); (focus (repeat (first | assumption | exact Has.row (List.Mem.head _) | (apply Has.mine; assumption) | apply Has.tail | apply Has.oH | exact Has.nil))); exact enc_bytes hz; (first | assumption | omega)); (intro _ _ _; exact StOk.nil); (rintro _ _ (⟨hd0, rfl, rfl⟩ | ⟨p0, v0, hd0, rfl, rfl, ho0⟩) <;> (rw [dec_enc hz] at hd0; cases hd0)))
       | ((with_reducible apply G.hcall (f := 21)); rfl; rfl; exact Try.call21; ((apply decode_n (bs := bs) rfl); (focus (repeat (first | assumption | exact Has.row (List.Mem.head _) | (apply Has.mine; assumption) | apply Has.tail | apply Has.oH | exact Has.nil))); exact hb; (first | assumption | omega)); (intro _ _ _; exact StOk.nil); (rintro _ _ (⟨hd, rfl, rfl⟩ | ⟨p1, v1, hd, rfl, rfl, ho1⟩)))
       | ((with_reducible apply G.rcall (f := 23)); rfl; rfl; exact Try.call23; (((apply same_ins (l := l) (m := l)); (first | omega | (have := (chk_ok hz).2.1; omega)); (focus (repeat (first | assumption | exact Has.row (List.Mem.head _) | (apply Has.mine; assumption) | apply Has.tail | apply Has.oH | exact Has.nil))); (focus (repeat (first | assumption | exact Has.row (List.Mem.head _) | (apply Has.mine; assumption) | apply Has.tail | apply Has.oH | exact Has.nil))))); (focus (repeat (first | exact StOk.nil | (refine StOk.keep ?_ ?_; (focus ((repeat (first | exact List.Mem.head _ | assumption | apply List.Mem.tail | apply mem_oH)); done))) | refine StOk.gone (by kernel_rfl) ?_))))
       | ((with_reducible apply G.nilck); rfl; rfl) | ((with_reducible apply G.extract); rfl; rfl; rfl) | ((with_reducible apply G.len); rfl; rfl; rfl) | ((with_reducible apply G.pick1); rfl; rfl; rfl) | ((with_reducible apply G.pick0); rfl; rfl; rfl) | ((with_reducible apply G.unw); rfl) | ((with_reducible apply G.unw0); rfl)
       | ((with_reducible apply G.boxa); rfl; rfl; intro b) | ((with_reducible apply G.box); rfl; rfl; intro b) | ((with_reducible apply G.alloc); rfl; rfl; rfl; intro b)
       | ((with_reducible apply G.store); rfl; rfl; rfl; rfl; rfl; rfl; (focus (repeat (first | assumption | exact Rem.here | apply Rem.there | apply Rem.oH))); (exact Nat.le_of_ble_eq_true rfl); (focus (repeat (first | exact StOk.nil | (refine StOk.keep ?_ ?_; (focus ((repeat (first | exact List.Mem.head _ | assumption | apply List.Mem.tail | apply mem_oH)); done))) | refine StOk.gone (by kernel_rfl) ?_))); rfl)
       | ((with_reducible apply G.build); rfl; rfl; rfl) | ((with_reducible apply G.eqs); rfl; rfl; rfl; rfl; (kernel_rfl); (kernel_rfl)) | ((with_reducible apply G.nes); rfl; rfl; rfl; rfl; (kernel_rfl); (kernel_rfl))
       | ((with_reducible apply G.num); rfl; rfl; rfl; rfl; rfl; (first | with_reducible exact shl8 _ (by omega) (by omega) | with_reducible exact shl16 _ (by omega) (by omega) | with_reducible exact or8 (by omega) (by omega) (by omega) (by omega) | with_reducible exact or16 (by omega) (by omega) (by omega) (by omega) | with_reducible exact or24 (by omega) (by omega) (by omega) (by omega) (by omega) (by omega) | with_reducible exact i64_in _ (by omega) (by omega) | with_reducible exact wrap8_in _ (by omega) (by omega) | with_reducible exact u64_in _ (by omega) (by omega) | with_reducible exact shr16 _ | with_reducible exact shr8 _ | with_reducible exact wrap8_mod _))
       | ((with_reducible apply G.pure); rfl; rfl; rfl; rfl; rfl)
       | ((with_reducible apply G.known true); rfl; rfl; rfl; (focus (first | rfl | (simp; done) | exact decide_eq_true (by omega) | exact decide_eq_false (by omega) | (simp_all; done) | (simp [enc_dec hb hd]; done)))) | ((with_reducible apply G.known false); rfl; rfl; rfl; (focus (first | rfl | (simp; done) | exact decide_eq_true (by omega) | exact decide_eq_false (by omega) | (simp_all; done) | (simp [enc_dec hb hd]; done))))
       | ((with_reducible apply G.split); rfl; rfl; rfl; all_goals (intro h; first | replace h := beq_t h | replace h := beq_f h | replace h := bne_t h | replace h := bne_f h | replace h := of_decide_eq_true h | replace h := of_decide_eq_false h | skip)))
    | with_reducible apply RG.done | with_reducible apply Q.tn | with_reducible apply Q.tr | with_reducible apply Q.te | with_reducible apply Q.bn | with_reducible apply Q.br | with_reducible apply Q.be | ((with_reducible apply Q.bx); decide) | with_reducible apply Q.tp | with_reducible apply Q.bp
    | with_reducible apply SW.seq | with_reducible apply SW.block | with_reducible apply SW.ret | with_reducible apply SW.skip | with_reducible apply SW.exit
    | ((with_reducible apply SW.cond1); rfl; (focus (first | rfl | (simp; done) | exact decide_eq_true (by omega) | exact decide_eq_false (by omega) | (simp_all; done) | (simp [enc_dec hb hd]; done)))) | ((with_reducible apply SW.cond0); rfl; (focus (first | rfl | (simp; done) | exact decide_eq_true (by omega) | exact decide_eq_false (by omega) | (simp_all; done) | (simp [enc_dec hb hd]; done))))
    | ((with_reducible apply SW.cond); rfl; all_goals (intro h; first | replace h := beq_t h | replace h := beq_f h | replace h := bne_t h | replace h := bne_f h | replace h := of_decide_eq_true h | replace h := of_decide_eq_false h | skip))
    | ((with_reducible apply SW.region0); kernel_rfl; rfl))
  all_goals ((apply Q.rret (.cons (by first | exact .tmp rfl | exact .cell rfl (by repeat (first | exact List.Mem.head _ | apply List.Mem.tail)) rfl) .nil)); ((focus (repeat (first | exact Rems.all | exact Rems.nil | (apply Rems.own; (focus (repeat (first | exact OIn.here | apply OIn.there | apply OIn.over)))) | (apply Rems.cons; (focus (repeat (first | assumption | exact Rem.here | apply Rem.there | apply Rem.oH)))) | apply Rems.skip | apply Rems.oskip)))); (first | rfl | (simp [tupV]; done) | (simp [tupV, enc_dec hb hd]; done)))

theorem ProgBack_own : ownKnob Try.prog.godebug = none := by kernel_rfl
theorem ProgBack_laid : laidOutB Try.prog = true := by kernel_rfl
set_option maxRecDepth 100000 in
theorem ProgBack_lifted (os : Os) (started : os.Started) (H : Type) (enc : TypeId × Value → H) :
    ReturnsInHanded {} Try.checked os 9 .any (Rows.progBackSpec.pre6 enc Try.prog Try.f9 Rows.progBackRow.domain false) (Rows.progBackSpec.post enc Try.prog Try.f9 false true false false) := by
  refine returnsInHanded_of_change_sized (C := Try.checked) ProgBack_own started (by kernel_rfl) Try.func9
    (ChangeSpec.witness6 (enc := enc) (C := Try.checked) false ⟨#[], #[.slice none 0 0, .slice none 0 0], []⟩ 8 (by kernel_rfl) (by kernel_rfl) (by kernel_rfl) (by kernel_rfl)) ?_
  intro W base args ds gs before hval0 hW _ hsz _
  have hval : ∀ (j : Nat) t v, Try.f9.params[j]? = some t → args[j]? = some v → Value.okWide Try.prog W .any base t v := hval0
  have hW' := hW
  obtain ⟨p, q, hA0, hV, rfl, _, _⟩ := hW
  obtain ⟨rfl, rfl⟩ := trodVars_none hV
  have hA : DataW.TrodAll enc Try.prog W 0 (fun _ => true) true Try.f9.params.toList args.toList ds p := hA0
  rw [Try.params9] at hA hval
  obtain ⟨v0, v1, d0, d1, p0, p1, rfl, rfl, rfl, h0, h1⟩ := trodAll_two hA
  have hsize : ∀ (j : Nat) t d, Try.f9.params.toList[j]? = some t → [d0, d1][j]? = some d → ∀ n ∈ d.weights Try.prog t, n ≤ reachBytes := fun j t d ht hd n hn => of_decide_eq_true (List.all_eq_true.1 hsz n (DataW.weights_mem_each (j := j) (by rw [List.getElem?_append_left (List.getElem?_eq_some_iff.1 ht).1]; exact ht) (by rw [List.append_nil]; exact hd) n hn))
  obtain ⟨a0, n0, c0, Hc0, els0, rfl, q01, q02, q03, q04, q05, q06, q07⟩ := open_slice Try.underlying22 4 (ks := [.i .i64, .i .i64]) (by kernel_rfl) (by kernel_rfl) (by decide) (hval 0 22 _ rfl rfl) h0
  obtain ⟨L0, rfl, hL0⟩ := pairs_of q04
  have s0 : Has Hc0 a0 (cellsI L0) := q05
  rw [List.length_map] at q01
  obtain ⟨a1, n1, c1, Hc1, els1, rfl, q11, q12, q13, q14, q15, q16, q17⟩ := open_slice Try.underlying38 4 (ks := [.i .u8]) (by kernel_rfl) (by kernel_rfl) (by decide) (hval 1 38 _ rfl rfl) h1
  have z1 : c1 * Try.prog.bytesOf 5 ≤ 140737488355328 := cap_le Try.underlying38 h1 (hsize 1 38 _ rfl rfl)
  have z1' : c1 ≤ 140737488355328 := by rw [show Try.prog.bytesOf 5 = 1 by kernel_rfl, Nat.mul_one] at z1; exact z1
  obtain ⟨L1, rfl, hL1⟩ := ints_of q14
  have s1 : Has Hc1 a1 (bytesV L1) := by rw [flat_one] at q15; exact q15
  rw [List.length_map] at q11
  refine (RC.run (ProgBack_rc (Hc0 ++ Hc1) a0 n0 c0 (L0.take (min n0 100)) q02 (by rw [List.length_take]; omega) (by rw [cells_take]; exact (s0.mono (fun _ h => List.mem_append_left _ h)).take _) a1 n1 c1 (L1.take n1) (by rw [List.length_take]; omega) (by rw [bytes_take]; exact (s1.mono (fun _ h => List.mem_append_right _ h)).take _) (byte_all hL1) q12 z1') (q06.append q16)).mono fun e W' ⟨he, hb⟩ => ?_
  subst he
  exact ⟨_, rfl, law_post ProgBack_laid (by decide +kernel) rfl Try.underlying4 rfl (fun ds h => by match ds, h with | [d0, d1], _ => rfl) rfl hW' hb⟩

theorem ProgBack_holds : Rows.ProgBackSaid :=
  OpenClaim.holds_of_wide 9 Try.f9 rfl rfl rfl rfl rfl rfl rfl ⟨rfl, rfl, rfl, rfl, rfl⟩ rfl rfl rfl rfl rfl (by kernel_rfl) Try.func9 (by kernel_rfl)
    (of_decide_eq_true (by kernel_rfl)) (by unfold Func.isWrapper; first | (rw [if_pos (by decide +kernel)]; kernel_rfl) | (rw [if_neg (by decide +kernel)]; exact ⟨rfl, rfl⟩))
    (fun os started H enc _ => ProgBack_lifted os started H enc)

end Go.Proofs.Ytjgilhbponfaaaa
