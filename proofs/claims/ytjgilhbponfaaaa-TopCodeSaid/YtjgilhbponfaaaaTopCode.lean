/- TopCode: the law holds of every input. -/
import Derived.Test.YtjgilhbponfaaaaE
namespace Go.Proofs.Ytjgilhbponfaaaa
open Go Go.RowKit Bw Go.ChangeShapes Go.WideShapes Go.ChangeAt
attribute [local irreducible] OC RC DC XC


theorem few_q {a : Option Addr} {n c q : Nat} (hn : n ≤ c) (hq : q = min n 100) : DC Try.prog 12 #[.slice a n c] (.slice a q c) := by subst hq; exact few_dc a n c hn
theorem flat_one {α β : Type} {f : α → β} (l : List α) : (l.map fun x => [f x]).flatten = l.map f := by
  induction l with
  | nil => rfl
  | cons x l ih => simp [ih]
theorem bytes_take {L : List Int} (k : Nat) : bytesV (L.take k) = (bytesV L).take k := by simp [bytesV, List.map_take]
theorem one_bytes (l : List Int) : oneB (bytesV l) = true := by
  induction l with
  | nil => rfl
  | cons x l ih => simpa [bytesV, oneB, Value.oneCell'] using ih
theorem bytes_len (l : List Int) : (bytesV l).length = l.length := by simp [bytesV]
theorem byte_all {L : List Int} {k : Nat} (h : ∀ y ∈ L, okI .u8 y) : ∀ x ∈ L.take k, Byte x := fun x hx => okI_u8 (h x (List.mem_of_mem_take hx))
theorem stays {l : List IV} {p : Int} {x : IV} (hz : (chk l).1 = 0) (h0 : 0 ≤ p ∧ p < l.length) (hx : l[p.toNat]? = some x) : (x.1 = 9 ∧ nxt l p = none) ∨ (¬ x.1 = 9 ∧ ∃ v, nxt l p = some v ∧ 0 ≤ v ∧ v < l.length) := by
  obtain ⟨hpos, h64, hall, hend⟩ := chk_ok hz
  rw [nxt_in hz h0 hx]
  by_cases h9 : x.1 = 9
  · exact .inl ⟨h9, if_pos h9⟩
  · refine .inr ⟨h9, ?_⟩
    rw [if_neg h9]
    by_cases h8 : x.1 = 8
    · rw [if_pos h8]
      have hr := hall _ _ hx
      refine ⟨_, rfl, ?_⟩
      unfold rightB at hr
      simp [h8] at hr
      exact hr
    · rw [if_neg h8]
      refine ⟨_, rfl, by omega, ?_⟩
      by_cases he : p.toNat = l.length - 1
      · rw [he] at hx
        rcases hend _ hx with h | h
        · exact absurd h h8
        · exact absurd h h9
      · omega
theorem chk_exit : (chk [(9, 0)]).1 = 0 := by unfold chk bad rightB; rfl

set_option maxHeartbeats 4000000 in
set_option maxRecDepth 4000 in
theorem TopCode_rc (H : Hp) (a : Option Addr) (n' c' : Nat) (bs : List Int) (hbl : bs.length = n') (hs : Has H a (bytesV bs)) (hb : ∀ x ∈ bs, Byte x) (hbc : n' ≤ c') (m : Int) (hm0 : 0 ≤ m) (hm1 : m < 256) : RC Try.prog 11 #[.slice a n' c', .int .u8 m] H (.bool true) := by
  subst hbl
  all_goals (try unfold RC)
  all_goals (try unfold DC)
  all_goals refine OC.of_sw Try.func11 rfl Try.ntmps11 (Nat.le_of_ble_eq_true rfl) fun C => ?_
  repeat' (first
    | ((with_reducible apply SW.bloopI (id := 0) (α := (Int × Nat)) (Inv := (fun (s : Int × Nat) => 0 ≤ s.1 ∧ s.1 < p1.length ∧ (s.2 : Int) ≤ m)) (I := (fun (s : Int × Nat) => match s with | (p, i) => [(1, .int .u8 m), (5, .slice (oA v1) p1.length (oC v1)), (9, .int .i64 (chk p1).1), (11, .int .i64 p), (12, .int .i64 (i : Nat))])) (J := (fun _ => oH 31 v1 (cellsI p1) H)) (μ := (fun s => m.toNat - s.2)) (x0 := (0, 0))); (exact ⟨by decide, by (try dsimp only); omega, by (try dsimp only); omega⟩); (apply Exists.intro; apply And.intro; (focus (repeat (first | exact trivial | refine ⟨rfl, ?_⟩))); (focus (repeat (first | exact Rems.all | exact Rems.nil | (apply Rems.own; (focus (repeat (first | exact OIn.here | apply OIn.there | apply OIn.over)))) | (apply Rems.cons; (focus (repeat (first | assumption | exact Rem.here | apply Rem.there | apply Rem.oH)))) | apply Rems.skip | apply Rems.oskip)))); (rintro ⟨p, i⟩ hj; obtain ⟨hj1, hj2, hj3⟩ := hj; dsimp only at hj1 hj2 hj3; obtain ⟨x, hx⟩ : ∃ x, p1[p.toNat]? = some x := ⟨_, List.getElem?_eq_getElem (by omega)⟩; have hne := cellsI_ne hx; have ha := hs1.isa hne; have x29 := cellsI_29 hx; have x31 := cellsI_31 hx; have hst := stays hc0 ⟨hj1, hj2⟩ hx))
    | ((refine Exists.intro (v, i + 1) ?_); (apply Exists.intro); (refine ⟨?_, ?_, ?_, ?_⟩); (exact ⟨by (try dsimp only); omega, by (try dsimp only); omega, by (try dsimp only); omega⟩); (focus (repeat (first | exact trivial | refine ⟨rfl, ?_⟩))); (focus (repeat (first | exact Rems.all | exact Rems.nil | (apply Rems.own; (focus (repeat (first | exact OIn.here | apply OIn.there | apply OIn.over)))) | (apply Rems.cons; (focus (repeat (first | assumption | exact Rem.here | apply Rem.there | apply Rem.oH)))) | apply Rems.skip | apply Rems.oskip))); ((try dsimp only); omega))
    | ((with_reducible apply G.at); rfl; first
       | ((with_reducible apply G.move); rfl; rfl) | ((with_reducible apply G.assign); rfl; rfl)
       | ((with_reducible apply G.load0); rfl; rfl; (focus (repeat (first | exact List.Mem.head _ | assumption | apply List.Mem.tail | apply mem_oH))); rfl) | ((with_reducible apply G.load1); rfl; rfl; (focus (repeat (first | exact List.Mem.head _ | assumption | apply List.Mem.tail | apply mem_oH))); rfl)
       | ((with_reducible apply G.loadS0); rfl; rfl; (focus (repeat (first | assumption | exact Has.row (List.Mem.head _) | (apply Has.mine; assumption) | apply Has.tail | apply Has.oH | exact Has.nil))); assumption; (first | assumption | rfl)) | ((with_reducible apply G.loadS1); rfl; rfl; (first | assumption | exact Has.row (List.Mem.head _)); (focus (intro p hp; repeat (first | assumption | apply List.Mem.tail | apply mem_oH))); assumption; (first | assumption | rfl); intro _ _ _)
       | ((with_reducible apply G.faddrh (k := 0)); rfl; rfl; rfl) | ((with_reducible apply G.faddrh (k := 1)); rfl; rfl; rfl) | ((with_reducible apply G.faddrh (k := 2)); rfl; rfl; rfl) | ((with_reducible apply G.faddrh (k := 3)); rfl; rfl; rfl) | ((with_reducible apply G.faddrh (k := 4)); rfl; rfl; rfl) | ((with_reducible apply G.faddrh (k := 5)); rfl; rfl; rfl) | ((with_reducible apply G.faddrh (k := 6)); rfl; rfl; rfl) | ((with_reducible apply G.faddrh (k := 7)); rfl; rfl; rfl)
       | ((with_reducible apply G.faddrS (d := 0)); rfl; rfl; rfl; assumption) | ((with_reducible apply G.faddrS (d := 1)); rfl; rfl; rfl; assumption) | ((with_reducible apply G.faddrS (d := 2)); rfl; rfl; rfl; assumption) | ((with_reducible apply G.faddrS (d := 3)); rfl; rfl; rfl; assumption) | ((with_reducible apply G.faddrS (d := 4)); rfl; rfl; rfl; assumption) | ((with_reducible apply G.faddrS (d := 5)); rfl; rfl; rfl; assumption) | ((with_reducible apply G.faddrS (d := 6)); rfl; rfl; rfl; assumption) | ((with_reducible apply G.faddrS (d := 7)); rfl; rfl; rfl; assumption)
       | ((with_reducible apply G.bslice); rfl; rfl; intro b)
       | ((with_reducible apply G.iaddrS (size := 2) (j := p.toNat)); rfl; rfl; rfl; rfl; assumption; (first | rfl | omega); (first | assumption | omega))
       | ((with_reducible apply G.iaddrS (size := 1) (j := 0)); rfl; rfl; rfl; rfl; assumption; (first | rfl | omega); (first | assumption | omega))
       | ((with_reducible apply G.rcall (f := 15)); rfl; rfl; exact Try.call15; exact live_dc.rc; (focus (repeat (first | exact StOk.nil | (refine StOk.keep ?_ ?_; (focus ((repeat (first | exact List.Mem.head _ | assumption | apply List.Mem.tail | apply mem_oH)); done))) | refine StOk.gone (by kernel_rfl) ?_))))
       | ((with_reducible apply G.hcall (f := 21)); rfl; rfl; exact Try.call21; ((apply decode_n (bs := bs) rfl); (focus (repeat (first | assumption | exact Has.row (List.Mem.head _) | (apply Has.mine; assumption) | apply Has.tail | apply Has.oH | exact Has.nil))); exact hb; (first | assumption | omega)); (intro _ _ _; exact StOk.nil); (rintro _ _ (⟨hd, rfl, rfl⟩ | ⟨p1, v1, hd, rfl, rfl, ho1⟩); (case' inr => (have hc0 : (chk p1).1 = 0 := dec_ok hd; obtain ⟨hpos, h64, hall, hend⟩ := chk_ok hc0; have hs1 := Has.mine (e := 31) (H := H) ho1))))
       | ((with_reducible apply G.hcall (f := 19)); rfl; rfl; exact Try.call19; ((apply encode_ok (l := [(9, 0)])); exact Has.row (List.Mem.head _); exact chk_exit); (intro _ _ _; exact StOk.nil); (rintro _ _ ⟨eb, ec, er, rfl, rfl, hc1, hc2⟩))
       | ((with_reducible apply G.rcall (f := 13)); rfl; rfl; exact Try.call13; ((apply check_rc (l := p1)); (focus (repeat (first | assumption | exact Has.row (List.Mem.head _) | (apply Has.mine; assumption) | apply Has.tail | apply Has.oH | exact Has.nil)))); (focus (repeat (first | exact StOk.nil | (refine StOk.keep ?_ ?_; (focus ((repeat (first | exact List.Mem.head _ | assumption | apply List.Mem.tail | apply mem_oH)); done))) | refine StOk.gone (by kernel_rfl) ?_))))
       | ((with_reducible apply G.hcall (f := 17)); rfl; rfl; exact Try.call17; (((apply next_oc (l := p1) (p := p)); exact ⟨by omega, by omega⟩; (focus (repeat (first | assumption | exact Has.row (List.Mem.head _) | (apply Has.mine; assumption) | apply Has.tail | apply Has.oH | exact Has.nil))))); (intro _ _ _; exact StOk.nil); (rintro _ _ (⟨hv, rfl, rfl⟩ | ⟨v, b, hv, rfl, rfl⟩) <;> rcases hst with ⟨g1, g2⟩ | ⟨g1, v', g2, g3, g4⟩ <;> first | (exfalso; rw [g2] at hv; cases hv; done) | (rw [g2] at hv; cases hv; (try have e3 : loadL Try.prog 3 [Value.int .i64 v] (0 * 1) = some (.int .i64 v) := rfl); (try have hn2 : [Value.int .i64 v] ≠ [] := (by simp)); (try have ha2 : Is (some ⟨b, 0, none⟩) := ⟨_, _, rfl⟩))))
       | ((with_reducible apply G.nilck); rfl; rfl) | ((with_reducible apply G.extract); rfl; rfl; rfl) | ((with_reducible apply G.len); rfl; rfl; rfl) | ((with_reducible apply G.pick1); rfl; rfl; rfl) | ((with_reducible apply G.pick0); rfl; rfl; rfl) | ((with_reducible apply G.unw); rfl) | ((with_reducible apply G.unw0); rfl)
       | ((with_reducible apply G.boxa); rfl; rfl; intro b) | ((with_reducible apply G.box); rfl; rfl; intro b) | ((with_reducible apply G.alloc); rfl; rfl; rfl; intro b)
       | ((with_reducible apply G.store); rfl; rfl; rfl; rfl; rfl; rfl; (focus (repeat (first | assumption | exact Rem.here | apply Rem.there | apply Rem.oH))); (exact Nat.le_of_ble_eq_true rfl); (focus (repeat (first | exact StOk.nil | (refine StOk.keep ?_ ?_; (focus ((repeat (first | exact List.Mem.head _ | assumption | apply List.Mem.tail | apply mem_oH)); done))) | refine StOk.gone (by kernel_rfl) ?_))); rfl)
       | ((with_reducible apply G.build); rfl; rfl; rfl) | ((with_reducible apply G.eqs); rfl; rfl; rfl; rfl; (kernel_rfl); (kernel_rfl)) | ((with_reducible apply G.nes); rfl; rfl; rfl; rfl; (kernel_rfl); (kernel_rfl))
       | ((with_reducible apply G.num); rfl; rfl; rfl; rfl; rfl; (first | with_reducible exact shl8 _ (by omega) (by omega) | with_reducible exact shl16 _ (by omega) (by omega) | with_reducible exact or8 (by omega) (by omega) (by omega) (by omega) | with_reducible exact or16 (by omega) (by omega) (by omega) (by omega) | with_reducible exact or24 (by omega) (by omega) (by omega) (by omega) (by omega) (by omega) | with_reducible exact i64_in _ (by omega) (by omega) | with_reducible exact wrap8_in _ (by omega) (by omega) | with_reducible exact u64_in _ (by omega) (by omega) | with_reducible exact shr16 _ | with_reducible exact shr8 _ | with_reducible exact wrap8_mod _))
       | ((with_reducible apply G.pure); rfl; rfl; rfl; rfl; rfl)
       | ((with_reducible apply G.known true); rfl; rfl; rfl; (focus (first | rfl | (simp; done) | exact decide_eq_true (by omega) | exact decide_eq_false (by omega) | (simp_all; done) | (rw [hc0]; rfl) | (simp [g1]; done) | (simp [hc0]; done) | (simpa using hpos) | (simp; omega)))) | ((with_reducible apply G.known false); rfl; rfl; rfl; (focus (first | rfl | (simp; done) | exact decide_eq_true (by omega) | exact decide_eq_false (by omega) | (simp_all; done) | (rw [hc0]; rfl) | (simp [g1]; done) | (simp [hc0]; done) | (simpa using hpos) | (simp; omega))))
       | ((with_reducible apply G.split); rfl; rfl; rfl; all_goals (intro h; first | replace h := beq_t h | replace h := beq_f h | replace h := bne_t h | replace h := bne_f h | replace h := of_decide_eq_true h | replace h := of_decide_eq_false h | skip)))
    | with_reducible apply RG.done | with_reducible apply Q.tn | with_reducible apply Q.tr | with_reducible apply Q.te | with_reducible apply Q.bn | with_reducible apply Q.br | with_reducible apply Q.be | ((with_reducible apply Q.bx); decide) | with_reducible apply Q.tp | with_reducible apply Q.bp
    | with_reducible apply SW.seq | with_reducible apply SW.block | with_reducible apply SW.ret | with_reducible apply SW.skip | with_reducible apply SW.exit
    | ((with_reducible apply SW.cond1); rfl; (focus (first | rfl | (simp; done) | exact decide_eq_true (by omega) | exact decide_eq_false (by omega) | (simp_all; done) | (rw [hc0]; rfl) | (simp [g1]; done) | (simp [hc0]; done) | (simpa using hpos) | (simp; omega)))) | ((with_reducible apply SW.cond0); rfl; (focus (first | rfl | (simp; done) | exact decide_eq_true (by omega) | exact decide_eq_false (by omega) | (simp_all; done) | (rw [hc0]; rfl) | (simp [g1]; done) | (simp [hc0]; done) | (simpa using hpos) | (simp; omega))))
    | ((with_reducible apply SW.cond); rfl; all_goals (intro h; first | replace h := beq_t h | replace h := beq_f h | replace h := bne_t h | replace h := bne_f h | replace h := of_decide_eq_true h | replace h := of_decide_eq_false h | skip))
    | ((with_reducible apply SW.region0); kernel_rfl; rfl))
  all_goals ((apply Q.rret (.cons (by first | exact .tmp rfl | exact .cell rfl (by repeat (first | exact List.Mem.head _ | apply List.Mem.tail)) rfl) .nil)); ((focus (repeat (first | exact Rems.all | exact Rems.nil | (apply Rems.own; (focus (repeat (first | exact OIn.here | apply OIn.there | apply OIn.over)))) | (apply Rems.cons; (focus (repeat (first | assumption | exact Rem.here | apply Rem.there | apply Rem.oH)))) | apply Rems.skip | apply Rems.oskip)))); (first | rfl | (simp [tupV]; done) | (simp [tupV, g1]; done) | (simp [tupV, hc0]; done)))

theorem TopCode_own : ownKnob Try.prog.godebug = none := by kernel_rfl
theorem TopCode_laid : laidOutB Try.prog = true := by kernel_rfl
set_option maxRecDepth 100000 in
theorem TopCode_lifted (os : Os) (started : os.Started) (H : Type) (enc : TypeId × Value → H) :
    ReturnsInHanded {} Try.checked os 11 .any (Rows.topCodeSpec.pre6 enc Try.prog Try.f11 Rows.topCodeRow.domain false) (Rows.topCodeSpec.post enc Try.prog Try.f11 false true false false) := by
  refine returnsInHanded_of_change (C := Try.checked) TopCode_own started (by kernel_rfl) Try.func11
    (ChangeSpec.witness6 (enc := enc) (C := Try.checked) false ⟨#[], #[.slice none 0 0, .int .u8 0], []⟩ 8 (by kernel_rfl) (by kernel_rfl) (by kernel_rfl) (by kernel_rfl)) ?_
  intro W base args ds gs before hval0 hW _ _
  have hval : ∀ (j : Nat) t v, Try.f11.params[j]? = some t → args[j]? = some v → Value.okWide Try.prog W .any base t v := hval0
  have hW' := hW
  obtain ⟨p, q, hA0, hV, rfl, _, _⟩ := hW
  obtain ⟨rfl, rfl⟩ := trodVars_none hV
  have hA : DataW.TrodAll enc Try.prog W 0 (fun _ => true) true Try.f11.params.toList args.toList ds p := hA0
  rw [Try.params11] at hA hval
  obtain ⟨v0, v1, d0, d1, p0, p1, rfl, rfl, rfl, h0, h1⟩ := trodAll_two hA

  obtain ⟨a0, n0, c0, Hc0, els0, rfl, q01, q02, q03, q04, q05, q06, q07⟩ := open_slice Try.underlying38 4 (ks := [.i .u8]) (by kernel_rfl) (by kernel_rfl) (by decide) (hval 0 38 _ rfl rfl) h0
  obtain ⟨L0, rfl, hL0⟩ := ints_of q04
  have s0 : Has Hc0 a0 (bytesV L0) := by rw [flat_one] at q05; exact q05
  rw [List.length_map] at q01
  obtain ⟨x1, rfl, _, _, w1⟩ := open_int Try.underlying5 (hval 1 5 _ rfl rfl) h1
  refine (RC.run (TopCode_rc Hc0 a0 n0 c0 (L0.take n0) (by rw [List.length_take]; omega) (by rw [bytes_take]; exact s0.take _) (byte_all hL0) q02 x1 (okI_u8 w1).1 (okI_u8 w1).2) q06).mono fun e W' ⟨he, hb⟩ => ?_
  subst he
  exact ⟨_, rfl, law_post TopCode_laid (by decide +kernel) rfl Try.underlying4 rfl (fun ds h => by match ds, h with | [d0, d1], _ => rfl) rfl hW' hb⟩

theorem TopCode_holds : Rows.TopCodeSaid :=
  OpenClaim.holds_of_wide 11 Try.f11 rfl rfl rfl rfl rfl rfl rfl ⟨rfl, rfl, rfl, rfl, rfl⟩ rfl rfl rfl rfl rfl (by kernel_rfl) Try.func11 (by kernel_rfl)
    (of_decide_eq_true (by kernel_rfl)) (by unfold Func.isWrapper; first | (rw [if_pos (by decide +kernel)]; kernel_rfl) | (rw [if_neg (by decide +kernel)]; exact ⟨rfl, rfl⟩))
    (fun os started H enc _ => TopCode_lifted os started H enc)

end Go.Proofs.Ytjgilhbponfaaaa
