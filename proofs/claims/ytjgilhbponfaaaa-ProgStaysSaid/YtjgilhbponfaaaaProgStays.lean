/- ProgStays: the law holds of every input. -/
import Derived.Test.YtjgilhbponfaaaaK2
import Derived.Test.YtjgilhbponfaaaaSE
namespace Go.Proofs.Ytjgilhbponfaaaa
open Go Go.RowKit Bw Go.ChangeShapes Go.WideShapes Go.ChangeAt
attribute [local irreducible] OC RC DC

theorem few_q {a : Option Addr} {n c q : Nat} (hn : n ≤ c) (hq : q = min n 100) : DC Try.prog 12 #[.slice a n c] (.slice a q c) := by subst hq; exact few_dc a n c hn
theorem stays {l : List IV} {p : Int} {x : IV} (hz : (chk l).1 = 0) (h0 : 0 ≤ p ∧ p < l.length) (hx : l[p.toNat]? = some x) : (x.1 = 9 ∧ nxt l p = none) ∨ (¬ x.1 = 9 ∧ ∃ v, nxt l p = some v ∧ 0 ≤ v ∧ v < l.length) := by
  obtain ⟨hpos, h64, hall, hend⟩ := chk_ok hz
  rw [nxt_in hz h0 hx]
  by_cases h9 : x.1 = 9
  · exact .inl ⟨h9, if_pos h9⟩
  · refine .inr ⟨h9, ?_⟩
    rw [if_neg h9]
    by_cases h8 : x.1 = 8
    · rw [if_pos h8]
      have hr := hall _ _ hx
      refine ⟨_, rfl, ?_⟩
      unfold rightB at hr
      simp [h8] at hr
      exact hr
    · rw [if_neg h8]
      refine ⟨_, rfl, by omega, ?_⟩
      by_cases he : p.toNat = l.length - 1
      · rw [he] at hx
        rcases hend _ hx with h | h
        · exact absurd h h8
        · exact absurd h h9
      · omega

set_option maxHeartbeats 400000 in
set_option maxRecDepth 4000 in
theorem ProgStays_rc (H : Hp) (a : Option Addr) (n c : Nat) (l : List IV) (hn : n ≤ c) (hl : l.length = min n 100) (p : Int) (hp : 0 ≤ p ∧ p < 256) (hs : Has H a (cellsI l)) : RC Try.prog 7 #[.slice a n c, .int .u8 p] H (.bool true) := by
  have hp2 : I64 p := ⟨by omega, by omega⟩
  by_cases hz : (chk l).1 = 0
  case' pos => (obtain ⟨hpos, h64, hall, hend⟩ := chk_ok hz; have hm0 : 0 ≤ p % (l.length : Int) := Int.emod_nonneg _ (by omega); have hm1 : p % (l.length : Int) < l.length := Int.emod_lt_of_pos _ (by omega); have hm2 : I64 (p % (l.length : Int)) := ⟨by omega, by omega⟩; obtain ⟨x, hx⟩ : ∃ x, l[(p % (l.length : Int)).toNat]? = some x := ⟨_, List.getElem?_eq_getElem (by omega)⟩; have hne := cellsI_ne hx; have ha := hs.isa hne; have e31 := cellsI_31 hx; have e29 := cellsI_29 hx; have e3 := cellsI_3 hx; have hst := stays hz ⟨hm0, hm1⟩ hx)
  all_goals (try unfold RC)
  all_goals (try unfold DC)
  all_goals refine OC.of_sw Try.func7 rfl Try.ntmps7 (Nat.le_of_ble_eq_true rfl) fun C => ?_
  repeat' (first
    | ((with_reducible apply SW.bloopI (id := 0) (α := Nat) (Inv := (fun j => j ≤ 0)) (I := (fun j => [(0, .slice a l.length c), (7, .int .i64 (p % (l.length : Int))), (8, .slice none 0 0), (9, .int .i64 (j : Nat))])) (J := (fun _ => H)) (μ := (fun j => 0 - j)) (x0 := 0)); (omega); (apply Exists.intro; apply And.intro; (focus (repeat (first | exact trivial | refine ⟨rfl, ?_⟩))); (focus (repeat (first | exact Rems.all | exact Rems.nil | (apply Rems.cons; (first | exact Rem.here | exact .there .here | exact .there (.there .here) | exact .there (.there (.there .here)) | exact .there (.there (.there (.there .here))) | exact .there (.there (.there (.there (.there .here)))))) | apply Rems.skip)))); (intro j hj; obtain rfl : j = 0 := by omega))
    | ((with_reducible apply SW.bloopI (id := 0) (α := Nat) (Inv := (fun j => j ≤ 1)) (I := (fun j => [(0, .slice a l.length c), (7, .int .i64 (p % (l.length : Int))), (8, .slice (some ⟨b, 0, none⟩) 1 1), (9, .int .i64 (j : Nat))])) (J := (fun _ => (b, AObj.row 3 [.int .i64 v] 0) :: H)) (μ := (fun j => 1 - j)) (x0 := 0)); (omega); (apply Exists.intro; apply And.intro; (focus (repeat (first | exact trivial | refine ⟨rfl, ?_⟩))); (focus (repeat (first | exact Rems.all | exact Rems.nil | (apply Rems.cons; (first | exact Rem.here | exact .there .here | exact .there (.there .here) | exact .there (.there (.there .here)) | exact .there (.there (.there (.there .here))) | exact .there (.there (.there (.there (.there .here)))))) | apply Rems.skip)))); (intro j hj; first | (rcases Nat.lt_or_ge j 1 with hlt | hge; (case' inl => (obtain rfl : j = 0 := by omega)); (case' inr => (obtain rfl : j = 1 := by omega)); (all_goals skip))))
    | ((refine Exists.intro 1 ?_); (apply Exists.intro); (refine ⟨?_, ?_, ?_, ?_⟩); ((first | omega | exact Nat.le_refl _)); (focus (repeat (first | exact trivial | refine ⟨rfl, ?_⟩))); (focus (repeat (first | exact Rems.all | exact Rems.nil | (apply Rems.cons; (first | exact Rem.here | exact .there .here | exact .there (.there .here) | exact .there (.there (.there .here)) | exact .there (.there (.there (.there .here))) | exact .there (.there (.there (.there (.there .here)))))) | apply Rems.skip))); (omega))
    | ((with_reducible apply G.at); rfl; first
       | ((with_reducible apply G.move); rfl; rfl) | ((with_reducible apply G.assign); rfl; rfl)
       | ((with_reducible apply G.load0); rfl; rfl; (focus (repeat (first | exact List.Mem.head _ | assumption | apply List.Mem.tail))); rfl) | ((with_reducible apply G.load1); rfl; rfl; (focus (repeat (first | exact List.Mem.head _ | assumption | apply List.Mem.tail))); rfl)
       | ((with_reducible apply G.loadS0); rfl; rfl; (focus (repeat (first | assumption | exact Has.row (List.Mem.head _) | apply Has.tail | exact Has.nil))); assumption; (first | assumption | rfl)) | ((with_reducible apply G.loadS1); rfl; rfl; (first | assumption | exact Has.row (List.Mem.head _)); (focus (intro p hp; repeat (first | assumption | apply List.Mem.tail))); assumption; (first | assumption | rfl); intro _ _ _)
       | ((with_reducible apply G.faddrh (k := 0)); rfl; rfl; rfl) | ((with_reducible apply G.faddrh (k := 1)); rfl; rfl; rfl) | ((with_reducible apply G.faddrh (k := 2)); rfl; rfl; rfl) | ((with_reducible apply G.faddrh (k := 3)); rfl; rfl; rfl) | ((with_reducible apply G.faddrh (k := 4)); rfl; rfl; rfl) | ((with_reducible apply G.faddrh (k := 5)); rfl; rfl; rfl) | ((with_reducible apply G.faddrh (k := 6)); rfl; rfl; rfl) | ((with_reducible apply G.faddrh (k := 7)); rfl; rfl; rfl)
       | ((with_reducible apply G.faddrS (d := 0)); rfl; rfl; rfl; assumption) | ((with_reducible apply G.faddrS (d := 1)); rfl; rfl; rfl; assumption) | ((with_reducible apply G.faddrS (d := 2)); rfl; rfl; rfl; assumption) | ((with_reducible apply G.faddrS (d := 3)); rfl; rfl; rfl; assumption) | ((with_reducible apply G.faddrS (d := 4)); rfl; rfl; rfl; assumption) | ((with_reducible apply G.faddrS (d := 5)); rfl; rfl; rfl; assumption) | ((with_reducible apply G.faddrS (d := 6)); rfl; rfl; rfl; assumption) | ((with_reducible apply G.faddrS (d := 7)); rfl; rfl; rfl; assumption)
       | ((with_reducible apply G.rem); rfl; rfl; rfl; omega; omega)
       | ((with_reducible apply G.iaddrS (size := 2) (j := (p % (l.length : Int)).toNat)); rfl; rfl; rfl; rfl; assumption; (first | rfl | omega); (first | assumption | omega))
       | ((with_reducible apply G.iaddrS (size := 1) (j := 0)); rfl; rfl; rfl; rfl; assumption; (first | rfl | omega); (first | assumption | omega))
       | ((with_reducible apply G.dcall (f := 12)); rfl; rfl; exact Try.call12; exact few_q (q := l.length) hn hl)
       | ((with_reducible apply G.rcall (f := 15)); rfl; rfl; exact Try.call15; exact live_dc.rc; (focus (repeat (first | exact StOk.nil | (refine StOk.keep ?_ ?_; (repeat (first | exact List.Mem.head _ | assumption | apply List.Mem.tail))) | refine StOk.gone (by kernel_rfl) ?_))))
       | ((with_reducible apply G.hcall (f := 17)); rfl; rfl; exact Try.call17; (first | exact next_oc _ _ _ _ (p % (l.length : Int)) hm2 (by assumption) | exact next_oc _ _ _ _ p hp2 (by assumption)); (intro _ _ _; exact StOk.nil); (rintro _ H (⟨hv, rfl, rfl⟩ | ⟨v, b, hv, rfl, rfl⟩) <;> first | (exfalso; rw [nxt_not (.inl hz)] at hv; cases hv; done) | (exfalso; rcases hst with ⟨g1, g2⟩ | ⟨g1, v', g2, g3, g4⟩ <;> rw [g2] at hv <;> cases hv; done) | (rcases hst with ⟨g1, g2⟩ | ⟨g1, v', g2, g3, g4⟩ <;> rw [g2] at hv <;> cases hv; (have e3 : loadL Try.prog 3 [Value.int .i64 v] (0 * 1) = some (.int .i64 v) := rfl; have hn2 : [Value.int .i64 v] ≠ [] := (by simp); have ha2 : Is (some ⟨b, 0, none⟩) := ⟨_, _, rfl⟩)) | (rcases hst with ⟨g1, g2⟩ | ⟨g1, v', g2, g3, g4⟩ <;> rw [g2] at hv <;> cases hv) | skip))
       | ((with_reducible apply G.rcall (f := 13)); rfl; rfl; exact Try.call13; (exact check_rc _ _ _ _ (by assumption)); (focus (repeat (first | exact StOk.nil | (refine StOk.keep ?_ ?_; (repeat (first | exact List.Mem.head _ | assumption | apply List.Mem.tail))) | refine StOk.gone (by kernel_rfl) ?_))))
       | ((with_reducible apply G.nilck); rfl; rfl) | ((with_reducible apply G.extract); rfl; rfl; rfl) | ((with_reducible apply G.len); rfl; rfl; rfl) | ((with_reducible apply G.pick1); rfl; rfl; rfl) | ((with_reducible apply G.pick0); rfl; rfl; rfl) | ((with_reducible apply G.unw); rfl) | ((with_reducible apply G.unw0); rfl)
       | ((with_reducible apply G.boxa); rfl; rfl; intro b) | ((with_reducible apply G.box); rfl; rfl; intro b) | ((with_reducible apply G.alloc); rfl; rfl; rfl; intro b)
       | ((with_reducible apply G.store); rfl; rfl; rfl; rfl; rfl; rfl; (first | exact Rem.here | exact .there .here | exact .there (.there .here) | exact .there (.there (.there .here)) | exact .there (.there (.there (.there .here))) | exact .there (.there (.there (.there (.there .here)))) | exact .there (.there (.there (.there (.there (.there .here))))) | exact .there (.there (.there (.there (.there (.there (.there .here))))))); (exact Nat.le_of_ble_eq_true rfl); (focus (repeat (first | exact StOk.nil | (refine StOk.keep ?_ ?_; (repeat (first | exact List.Mem.head _ | assumption | apply List.Mem.tail))) | refine StOk.gone (by kernel_rfl) ?_))); rfl)
       | ((with_reducible apply G.build); rfl; rfl; rfl) | ((with_reducible apply G.eqs); rfl; rfl; rfl; rfl; (kernel_rfl); (kernel_rfl)) | ((with_reducible apply G.nes); rfl; rfl; rfl; rfl; (kernel_rfl); (kernel_rfl))
       | ((with_reducible apply G.num); rfl; rfl; rfl; rfl; rfl; (first | exact i64_in _ (by omega) (by omega) | exact wrap8_in _ (by omega) (by omega) | exact u64_in _ (by omega) (by omega) | exact shr16 _ | exact shr8 _ | exact wrap8_mod _))
       | ((with_reducible apply G.pure); rfl; rfl; rfl; rfl; rfl)
       | ((with_reducible apply G.known true); rfl; rfl; rfl; (focus (first | rfl | exact decide_eq_true (by omega) | exact decide_eq_false (by omega) | (rw [hz]; rfl) | (simpa using hz)))) | ((with_reducible apply G.known false); rfl; rfl; rfl; (focus (first | rfl | exact decide_eq_true (by omega) | exact decide_eq_false (by omega) | (rw [hz]; rfl) | (simpa using hz))))
       | ((with_reducible apply G.split); rfl; rfl; rfl; all_goals (intro h; first | replace h := beq_t h | replace h := beq_f h | replace h := bne_t h | replace h := bne_f h | replace h := of_decide_eq_true h | replace h := of_decide_eq_false h | skip)))
    | with_reducible apply RG.done | with_reducible apply Q.tn | with_reducible apply Q.tr | with_reducible apply Q.te | with_reducible apply Q.bn | with_reducible apply Q.br | with_reducible apply Q.be | ((with_reducible apply Q.bx); decide)
    | with_reducible apply SW.seq | with_reducible apply SW.block | with_reducible apply SW.ret | with_reducible apply SW.skip | with_reducible apply SW.exit
    | ((with_reducible apply SW.cond1); rfl; (focus (first | rfl | exact decide_eq_true (by omega) | exact decide_eq_false (by omega) | (rw [hz]; rfl) | (simpa using hz)))) | ((with_reducible apply SW.cond0); rfl; (focus (first | rfl | exact decide_eq_true (by omega) | exact decide_eq_false (by omega) | (rw [hz]; rfl) | (simpa using hz))))
    | ((with_reducible apply SW.cond); rfl; all_goals (intro h; first | replace h := beq_t h | replace h := beq_f h | replace h := bne_t h | replace h := bne_f h | replace h := of_decide_eq_true h | replace h := of_decide_eq_false h | skip))
    | ((with_reducible apply SW.region0); kernel_rfl; rfl))
  all_goals ((apply Q.rret (.cons (by first | exact .tmp rfl | exact .cell rfl (by repeat (first | exact List.Mem.head _ | apply List.Mem.tail)) rfl) .nil)); ((focus (repeat (first | exact Rems.all | exact Rems.nil | (apply Rems.cons; (first | exact Rem.here | exact .there .here | exact .there (.there .here) | exact .there (.there (.there .here)) | exact .there (.there (.there (.there .here))) | exact .there (.there (.there (.there (.there .here)))))) | apply Rems.skip)))); (first | rfl | (exfalso; apply h; simp [g1]; done) | (simp only [tupV]; simp [g1]; done)))

theorem ProgStays_own : ownKnob Try.prog.godebug = none := by kernel_rfl
theorem ProgStays_laid : laidOutB Try.prog = true := by kernel_rfl
set_option maxRecDepth 100000 in
theorem ProgStays_lifted (os : Os) (started : os.Started) (H : Type) (enc : TypeId × Value → H) :
    ReturnsInHanded {} Try.checked os 7 .any (Rows.progStaysSpec.pre6 enc Try.prog Try.f7 Rows.progStaysRow.domain false) (Rows.progStaysSpec.post enc Try.prog Try.f7 false true false false) := by
  refine returnsInHanded_of_change (C := Try.checked) ProgStays_own started (by kernel_rfl) Try.func7
    (ChangeSpec.witness6 (enc := enc) (C := Try.checked) false ⟨#[], #[.slice none 0 0, .int .u8 0], []⟩ 8 (by kernel_rfl) (by kernel_rfl) (by kernel_rfl) (by kernel_rfl)) ?_
  intro W base args ds gs before hval0 hW _ _
  have hval : ∀ (j : Nat) t v, Try.f7.params[j]? = some t → args[j]? = some v → Value.okWide Try.prog W .any base t v := hval0
  have hW' := hW
  obtain ⟨p, q, hA0, hV, rfl, _, _⟩ := hW
  obtain ⟨rfl, rfl⟩ := trodVars_none hV
  have hA : DataW.TrodAll enc Try.prog W 0 (fun _ => true) true Try.f7.params.toList args.toList ds p := hA0
  rw [Try.params7] at hA hval
  obtain ⟨v0, v1, d0, d1, p0, p1, rfl, rfl, rfl, h0, h1⟩ := trodAll_two hA
  obtain ⟨a0, n0, c0, Hc0, els0, rfl, q01, q02, q03, q04, q05, q06, q07⟩ := open_slice Try.underlying22 4 (ks := [.i .i64, .i .i64]) (by kernel_rfl) (by kernel_rfl) (by decide) (hval 0 22 _ rfl rfl) h0
  obtain ⟨L0, rfl, hL0⟩ := pairs_of q04
  have s0 : Has Hc0 a0 (cellsI L0) := q05
  rw [List.length_map] at q01
  obtain ⟨x1, rfl, _, _, w1⟩ := open_int Try.underlying5 (hval 1 5 _ rfl rfl) h1
  refine (RC.run (ProgStays_rc Hc0 a0 n0 c0 (L0.take (min n0 100)) q02 (by rw [List.length_take]; omega) x1 (okI_u8 w1) (by rw [cells_take]; exact s0.take _)) q06).mono fun e W' ⟨he, hb⟩ => ?_
  subst he
  exact ⟨_, rfl, law_post ProgStays_laid (by decide +kernel) rfl Try.underlying4 rfl (fun ds h => by match ds, h with | [d0, d1], _ => rfl) rfl hW' hb⟩

theorem ProgStays_holds : Rows.ProgStaysSaid :=
  OpenClaim.holds_of_wide 7 Try.f7 rfl rfl rfl rfl rfl rfl rfl ⟨rfl, rfl, rfl, rfl, rfl⟩ rfl rfl rfl rfl rfl (by kernel_rfl) Try.func7 (by kernel_rfl)
    (of_decide_eq_true (by kernel_rfl)) (by unfold Func.isWrapper; first | (rw [if_pos (by decide +kernel)]; kernel_rfl) | (rw [if_neg (by decide +kernel)]; exact ⟨rfl, rfl⟩))
    (fun os started H enc _ => ProgStays_lifted os started H enc)

end Go.Proofs.Ytjgilhbponfaaaa
