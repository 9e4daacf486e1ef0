/- ProgFirst: the law holds of every input. -/
import Derived.Test.YtjgilhbponfaaaaK
namespace Go.Proofs.Ytjgilhbponfaaaa
open Go Go.RowKit Bw Go.ChangeShapes Go.WideShapes Go.ChangeAt
attribute [local irreducible] OC RC DC

def noJ (l : List IV) : Prop := ∀ (i : Nat) (y : IV), l[i]? = some y → ¬ y.1 = 8
theorem right_nine {x : IV} {n m : Int} (h8 : ¬ x.1 = 8) (h : rightB x n = true) : rightB x m = true := by
  unfold rightB at *; simp_all
/-- What stands ahead of the place that is told, closed by an Exit. -/
theorem first_ok {l : List IV} (hl : l.length ≤ 63) (hj : noJ l) (h3 : ¬ (chk l).1 = 0) : ∃ k : Nat, (chk l).2 = k ∧ (k < l.length ∨ l.length = 0) ∧ (k < l.length → (chk (l.take k ++ [(9, 0)])).1 = 0) := by
  by_cases h0 : l.length = 0
  · rw [chk_size (.inl h0)]; exact ⟨0, rfl, .inr h0, by omega⟩
  have h64 : l.length ≤ 64 := by omega
  have nine : ∀ n : Int, rightB (9, 0) n = true := fun n => by simp [rightB]
  have key : ∀ k : Nat, k < l.length → (∀ i y, i < k → l[i]? = some y → rightB y l.length = true) → (chk (l.take k ++ [(9, 0)])).1 = 0 := by
    intro k hk hr
    have htk : (l.take k).length = k := by rw [List.length_take]; omega
    have hlen : (l.take k ++ [((9, 0) : IV)]).length = k + 1 := by rw [List.length_append, htk]; rfl
    have hlast : (l.take k ++ [((9, 0) : IV)])[(l.take k ++ [((9, 0) : IV)]).length - 1]? = some (9, 0) := by
      rw [hlen, Nat.add_sub_cancel, List.getElem?_append_right (by omega), htk, Nat.sub_self]; rfl
    have hal : ∀ (i : Nat) (y : IV), i < (l.take k ++ [((9, 0) : IV)]).length → (l.take k ++ [((9, 0) : IV)])[i]? = some y → rightB y (l.take k ++ [((9, 0) : IV)]).length = true := by
      intro i y hi hy
      rw [hlen] at hi
      by_cases e : i < k
      · rw [List.getElem?_append_left (by omega), List.getElem?_take_of_lt e] at hy
        exact right_nine (hj i y hy) (hr i y e hy)
      · rw [List.getElem?_append_right (by omega)] at hy
        have : i - (l.take k).length = 0 := by omega
        rw [this] at hy
        simp at hy
        subst hy
        exact nine _
    rw [chk_end (by omega) (by omega) hlast hal]
    simp
  cases hb : bad l with
  | some k =>
    unfold bad at hb
    rw [List.findIdx?_eq_some_iff_getElem] at hb
    obtain ⟨hk, h1, h2⟩ := hb
    have hr : ∀ (i : Nat) (y : IV), i < k → l[i]? = some y → rightB y l.length = true := by
      intro i y hi hy
      have := h2 i hi
      have he := (List.getElem?_eq_some_iff.1 hy).2
      rw [he] at this
      simpa using this
    have hx : l[k]? = some l[k] := List.getElem?_eq_getElem hk
    rw [chk_bad (by omega) h64 hx (by simpa using h1) hr]
    exact ⟨k, rfl, .inl hk, fun _ => key k hk hr⟩
  | none =>
    have hr : ∀ (i : Nat) (y : IV), i < l.length → l[i]? = some y → rightB y l.length = true := by
      intro i y hi hy
      unfold bad at hb
      rw [List.findIdx?_eq_none_iff] at hb
      simpa using hb y (List.mem_of_getElem? hy)
    have hx : l[l.length - 1]? = some l[l.length - 1] := List.getElem?_eq_getElem (by omega)
    have hc := chk_end (by omega) h64 hx hr
    rw [hc] at h3 ⊢
    split
    · exact ⟨l.length - 1, by simp; omega, .inl (by omega), fun _ => key _ (by omega) fun i y hi hy => hr i y (by omega) hy⟩
    · rename_i hn; rw [if_neg hn] at h3; exact absurd rfl h3

theorem few_q {a : Option Addr} {n c q : Nat} (hn : n ≤ c) (hq : q = min n 100) : DC Try.prog 12 #[.slice a n c] (.slice a q c) := by subst hq; exact few_dc a n c hn
theorem oneI (l : List IV) : oneB (cellsI l) = true := by
  induction l with
  | nil => rfl
  | cons x l ih => simpa [cellsI, insC, oneB, Value.oneCell'] using ih
theorem cellsI_len (l : List IV) : (cellsI l).length = l.length * 2 := flat_length insC insC_len l
theorem check_n {G : Hp} {a : Option Addr} {c k : Nat} {l : List IV} (h : Has G a (cellsI l)) (hk : l.length = k) : RC Try.prog 13 #[.slice a k c] G (.tuple #[.int .i64 (chk l).1, .int .i64 (chk l).2]) := by subst hk; exact check_rc G a c l h

set_option maxHeartbeats 400000 in
set_option maxRecDepth 4000 in
theorem ProgFirst_rc (H : Hp) (a : Option Addr) (n c : Nat) (l : List IV) (hn : n ≤ c) (hl : l.length = min n 63) (hs : Has H a (cellsI l)) : RC Try.prog 4 #[.slice a n c] H (.bool true) := by
  obtain ⟨q, hq, hcase⟩ : ∃ q, q = min n 100 ∧ ((63 < q ∧ l.length = 63) ∨ (q ≤ 63 ∧ q = l.length)) := ⟨_, rfl, by omega⟩
  rcases hcase with ⟨hc1, hc2⟩ | ⟨hc1, hc2⟩
  case' inr => subst hc2
  all_goals (try unfold RC)
  all_goals (try unfold DC)
  all_goals refine OC.of_sw Try.func4 rfl Try.ntmps4 (Nat.le_of_ble_eq_true rfl) fun C => ?_
  repeat' (first
    | ((with_reducible apply SW.bloopI (id := 0) (α := Nat) (Inv := (fun j => j ≤ l.length ∧ ∀ (i : Nat) (y : IV), i < j → l[i]? = some y → ¬ y.1 = 8)) (I := (fun j => [(0, .slice a l.length c), (3, .int .i64 (j : Nat))])) (J := (fun _ => H)) (μ := (fun j => l.length - j)) (x0 := 0)); (exact ⟨by omega, fun i y hi => absurd hi (by omega)⟩); (apply Exists.intro; apply And.intro; (focus (repeat (first | exact trivial | refine ⟨rfl, ?_⟩))); (focus (repeat (first | exact Rems.all | exact Rems.nil | (apply Rems.cons; (first | exact Rem.here | exact .there .here | exact .there (.there .here) | exact .there (.there (.there .here)) | exact .there (.there (.there (.there .here))) | exact .there (.there (.there (.there (.there .here)))))) | apply Rems.skip)))); (intro j hj; obtain ⟨hj1, hj2⟩ := hj; rcases Nat.lt_or_ge j l.length with hlt | hge; (case' inl => (obtain ⟨x, hx⟩ : ∃ x, l[j]? = some x := ⟨_, List.getElem?_eq_getElem (by omega)⟩; have hne := cellsI_ne hx; have ha := hs.isa hne; have e31 := cellsI_31 hx; have e29 := cellsI_29 hx; have e3 := cellsI_3 hx)); (case' inr => (obtain rfl : j = l.length := by omega); (have hnoJ : noJ l := fun i y hy => hj2 i y ((List.getElem?_eq_some_iff.1 hy).1) hy); by_cases hz : (chk l).1 = 0; (case' neg => (obtain ⟨k, hk1, hk2, hk3⟩ := first_ok (by omega) hnoJ hz; by_cases hk4 : k < l.length; (case' pos => (have hk6 := hk3 hk4; have hk5 : (l.take k ++ [((9, 0) : IV)]).length = k + 1 := (by rw [List.length_append, List.length_take, Nat.min_eq_left (by omega)]; rfl); have hlk : (cellsI (l.take k)).length = k * 2 := (by rw [cellsI_len, List.length_take, Nat.min_eq_left (by omega)]); have hsk : Has H a (cellsI (l.take k)) := (by rw [cells_take]; exact hs.take _)))))); (all_goals first | (exfalso; omega) | skip)))
    | ((refine Exists.intro (j + 1) ?_); (apply Exists.intro); (refine ⟨?_, ?_, ?_, ?_⟩); (exact ⟨by omega, all_succ (p := fun y => ¬ y.1 = 8) hj2 hx (by assumption)⟩); (focus (repeat (first | exact trivial | refine ⟨rfl, ?_⟩))); (focus (repeat (first | exact Rems.all | exact Rems.nil | (apply Rems.cons; (first | exact Rem.here | exact .there .here | exact .there (.there .here) | exact .there (.there (.there .here)) | exact .there (.there (.there (.there .here))) | exact .there (.there (.there (.there (.there .here)))))) | apply Rems.skip))); (omega))
    | ((with_reducible apply G.at); rfl; first
       | ((with_reducible apply G.move); rfl; rfl) | ((with_reducible apply G.assign); rfl; rfl)
       | ((with_reducible apply G.load0); rfl; rfl; (focus (repeat (first | exact List.Mem.head _ | assumption | apply List.Mem.tail))); rfl) | ((with_reducible apply G.load1); rfl; rfl; (focus (repeat (first | exact List.Mem.head _ | assumption | apply List.Mem.tail))); rfl)
       | ((with_reducible apply G.loadS0); rfl; rfl; (focus (repeat (first | assumption | exact Has.row (List.Mem.head _) | apply Has.tail | exact Has.nil))); assumption; (first | assumption | rfl)) | ((with_reducible apply G.loadS1); rfl; rfl; (first | assumption | exact Has.row (List.Mem.head _)); (focus (intro p hp; repeat (first | assumption | apply List.Mem.tail))); assumption; (first | assumption | rfl); intro _ _ _)
       | ((with_reducible apply G.faddrh (k := 0)); rfl; rfl; rfl) | ((with_reducible apply G.faddrh (k := 1)); rfl; rfl; rfl) | ((with_reducible apply G.faddrh (k := 2)); rfl; rfl; rfl) | ((with_reducible apply G.faddrh (k := 3)); rfl; rfl; rfl) | ((with_reducible apply G.faddrh (k := 4)); rfl; rfl; rfl) | ((with_reducible apply G.faddrh (k := 5)); rfl; rfl; rfl) | ((with_reducible apply G.faddrh (k := 6)); rfl; rfl; rfl) | ((with_reducible apply G.faddrh (k := 7)); rfl; rfl; rfl)
       | ((with_reducible apply G.faddrS (d := 0)); rfl; rfl; rfl; assumption) | ((with_reducible apply G.faddrS (d := 1)); rfl; rfl; rfl; assumption) | ((with_reducible apply G.faddrS (d := 2)); rfl; rfl; rfl; assumption) | ((with_reducible apply G.faddrS (d := 3)); rfl; rfl; rfl; assumption) | ((with_reducible apply G.faddrS (d := 4)); rfl; rfl; rfl; assumption) | ((with_reducible apply G.faddrS (d := 5)); rfl; rfl; rfl; assumption) | ((with_reducible apply G.faddrS (d := 6)); rfl; rfl; rfl; assumption) | ((with_reducible apply G.faddrS (d := 7)); rfl; rfl; rfl; assumption)
       | ((with_reducible apply G.iaddrS (size := 2) (j := j)); rfl; rfl; rfl; rfl; assumption; (first | rfl | omega); (first | assumption | omega))
       | ((with_reducible apply G.slice_h (h := l.length)); rfl; rfl; rfl; rfl; (first | rfl | omega); (first | assumption | omega))
       | ((with_reducible apply G.slice_h (h := k)); rfl; rfl; rfl; rfl; (first | rfl | omega); (first | assumption | omega))
       | ((with_reducible apply G.bslice); rfl; rfl; intro b)
       | ((with_reducible apply G.appendB (size := 2) (bytes := 16) (cs' := cellsI (l.take k ++ [(9, 0)])) (n' := (k + 1))); rfl; rfl; rfl; rfl; rfl; (first | exact Rem.here | exact .there .here | exact .there (.there .here) | exact .there (.there (.there .here)) | exact .there (.there (.there (.there .here))) | exact .there (.there (.there (.there (.there .here)))) | exact .there (.there (.there (.there (.there (.there .here))))) | exact .there (.there (.there (.there (.there (.there (.there .here))))))); (focus (first | assumption | (simp; done) | (simp; omega))); (focus (first | assumption | (simp; done) | (simp; omega))); (first | assumption | exact Nat.zero_le _ | exact Nat.le_refl _ | omega); (focus (repeat (first | assumption | exact Has.row (List.Mem.head _) | apply Has.tail | exact Has.nil))); rfl; rfl; (first | rfl | omega); (focus (simp [cellsI, insC])); (focus (first | omega | (simp; omega))); (focus (first | omega | (simp; omega))); (focus (repeat (first | exact StOk.nil | (refine StOk.keep ?_ ?_; (repeat (first | exact List.Mem.head _ | assumption | apply List.Mem.tail))) | refine StOk.gone (by kernel_rfl) ?_))); (intro b' cap' r' hb' hr'))
       | ((with_reducible apply G.appendN (size := 2) (bytes := 16)); rfl; rfl; rfl; rfl; rfl; (focus (repeat (first | assumption | exact Has.row (List.Mem.head _) | apply Has.tail | exact Has.nil))); (focus (rfl)); (focus (rfl)); (first | exact Nat.zero_lt_succ _ | omega); (focus (first | exact Nat.le_of_ble_eq_true rfl | omega | (simp; omega))); (focus (first | exact Nat.le_of_ble_eq_true rfl | omega | (simp; omega))); (focus (repeat (first | exact StOk.nil | (refine StOk.keep ?_ ?_; (repeat (first | exact List.Mem.head _ | assumption | apply List.Mem.tail))) | refine StOk.gone (by kernel_rfl) ?_))); (intro b' cap' r' hb' hr'))
       | ((with_reducible apply G.dcall (f := 12)); rfl; rfl; exact Try.call12; exact few_q (q := q) hn hq)
       | ((with_reducible apply G.dcall (f := 12)); rfl; rfl; exact Try.call12; exact few_q (q := l.length) hn hq)
       | ((with_reducible apply G.rcall (f := 15)); rfl; rfl; exact Try.call15; exact live_dc.rc; (focus (repeat (first | exact StOk.nil | (refine StOk.keep ?_ ?_; (repeat (first | exact List.Mem.head _ | assumption | apply List.Mem.tail))) | refine StOk.gone (by kernel_rfl) ?_))))
       | ((with_reducible apply G.rcall (f := 13)); rfl; rfl; exact Try.call13; (first | exact check_rc _ _ _ _ hs | exact check_n (l := l.take k ++ [(9, 0)]) (Has.row (List.Mem.head _)) hk5 | exact check_n (l := l.take 0 ++ [(9, 0)]) (Has.row (List.Mem.head _)) hk5); (focus (repeat (first | exact StOk.nil | (refine StOk.keep ?_ ?_; (repeat (first | exact List.Mem.head _ | assumption | apply List.Mem.tail))) | refine StOk.gone (by kernel_rfl) ?_))))
       | ((with_reducible apply G.append (size := 2) (bytes := 16) (v := none) (n := 0) (m := k) (cs := []) (news := cellsI (l.take k))); rfl; rfl; rfl; rfl; rfl; exact OwnIn.here (w := none); exact ⟨rfl, fun _ => rfl, Nat.le_refl _⟩; exact (fun w hh => src_of_has hsk hh.heap hlk); exact hlk; exact oneI _; omega; omega; (focus (repeat (first | exact StOk.nil | (refine StOk.keep ?_ ?_; (repeat (first | exact List.Mem.head _ | assumption | apply List.Mem.tail))) | refine StOk.gone (by kernel_rfl) ?_))); (intro v' hv' hvn); (rcases v' with _ | ⟨b1, cap1⟩); (case' none => (have hk0 := hv'.2.1 rfl; obtain rfl : k = 0 := by omega)); (case' some => (have w1 : 0 + k ≤ cap1 := hv'.2.2; have w2 : ([] ++ cellsI (l.take k)).length = (0 + k) * 2 := hv'.1; have w3 : cap1 * 2 = ([] ++ cellsI (l.take k)).length + (cap1 * 2 - ([] ++ cellsI (l.take k)).length) := by rw [w2]; omega)))
       | ((with_reducible apply G.nilck); rfl; rfl) | ((with_reducible apply G.extract); rfl; rfl; rfl) | ((with_reducible apply G.len); rfl; rfl; rfl) | ((with_reducible apply G.pick1); rfl; rfl; rfl) | ((with_reducible apply G.pick0); rfl; rfl; rfl) | ((with_reducible apply G.unw); rfl) | ((with_reducible apply G.unw0); rfl)
       | ((with_reducible apply G.boxa); rfl; rfl; intro b) | ((with_reducible apply G.box); rfl; rfl; intro b) | ((with_reducible apply G.alloc); rfl; rfl; rfl; intro b)
       | ((with_reducible apply G.store); rfl; rfl; rfl; rfl; rfl; rfl; (first | exact Rem.here | exact .there .here | exact .there (.there .here) | exact .there (.there (.there .here)) | exact .there (.there (.there (.there .here))) | exact .there (.there (.there (.there (.there .here)))) | exact .there (.there (.there (.there (.there (.there .here))))) | exact .there (.there (.there (.there (.there (.there (.there .here))))))); (exact Nat.le_of_ble_eq_true rfl); (focus (repeat (first | exact StOk.nil | (refine StOk.keep ?_ ?_; (repeat (first | exact List.Mem.head _ | assumption | apply List.Mem.tail))) | refine StOk.gone (by kernel_rfl) ?_))); rfl)
       | ((with_reducible apply G.build); rfl; rfl; rfl) | ((with_reducible apply G.eqs); rfl; rfl; rfl; rfl; (kernel_rfl); (kernel_rfl)) | ((with_reducible apply G.nes); rfl; rfl; rfl; rfl; (kernel_rfl); (kernel_rfl))
       | ((with_reducible apply G.num); rfl; rfl; rfl; rfl; rfl; (first | exact i64_in _ (by omega) (by omega) | exact wrap8_in _ (by omega) (by omega) | exact u64_in _ (by omega) (by omega) | exact shr16 _ | exact shr8 _ | exact wrap8_mod _))
       | ((with_reducible apply G.pure); rfl; rfl; rfl; rfl; rfl)
       | ((with_reducible apply G.known true); rfl; rfl; rfl; (focus (first | rfl | exact decide_eq_true (by omega) | exact decide_eq_false (by omega) | (rw [hz]; rfl) | (simpa using hz) | (simp only [hk1]; exact decide_eq_true (by omega)) | (simp only [hk1]; exact decide_eq_false (by omega))))) | ((with_reducible apply G.known false); rfl; rfl; rfl; (focus (first | rfl | exact decide_eq_true (by omega) | exact decide_eq_false (by omega) | (rw [hz]; rfl) | (simpa using hz) | (simp only [hk1]; exact decide_eq_true (by omega)) | (simp only [hk1]; exact decide_eq_false (by omega)))))
       | ((with_reducible apply G.split); rfl; rfl; rfl; all_goals (intro h; first | replace h := beq_t h | replace h := beq_f h | replace h := bne_t h | replace h := bne_f h | replace h := of_decide_eq_true h | replace h := of_decide_eq_false h | skip)))
    | with_reducible apply RG.done | with_reducible apply Q.tn | with_reducible apply Q.tr | with_reducible apply Q.te | with_reducible apply Q.bn | with_reducible apply Q.br | with_reducible apply Q.be | ((with_reducible apply Q.bx); decide)
    | with_reducible apply SW.seq | with_reducible apply SW.block | with_reducible apply SW.ret | with_reducible apply SW.skip | with_reducible apply SW.exit
    | ((with_reducible apply SW.cond1); rfl; (focus (first | rfl | exact decide_eq_true (by omega) | exact decide_eq_false (by omega) | (rw [hz]; rfl) | (simpa using hz) | (simp only [hk1]; exact decide_eq_true (by omega)) | (simp only [hk1]; exact decide_eq_false (by omega))))) | ((with_reducible apply SW.cond0); rfl; (focus (first | rfl | exact decide_eq_true (by omega) | exact decide_eq_false (by omega) | (rw [hz]; rfl) | (simpa using hz) | (simp only [hk1]; exact decide_eq_true (by omega)) | (simp only [hk1]; exact decide_eq_false (by omega)))))
    | ((with_reducible apply SW.cond); rfl; all_goals (intro h; first | replace h := beq_t h | replace h := beq_f h | replace h := bne_t h | replace h := bne_f h | replace h := of_decide_eq_true h | replace h := of_decide_eq_false h | skip))
    | ((with_reducible apply SW.region0); kernel_rfl; rfl))
  all_goals ((apply Q.rret (.cons (by first | exact .tmp rfl | exact .cell rfl (by repeat (first | exact List.Mem.head _ | apply List.Mem.tail)) rfl) .nil)); ((focus (repeat (first | exact Rems.all | exact Rems.nil | (apply Rems.cons; (first | exact Rem.here | exact .there .here | exact .there (.there .here) | exact .there (.there (.there .here)) | exact .there (.there (.there (.there .here))) | exact .there (.there (.there (.there (.there .here)))))) | apply Rems.skip)))); (first | rfl | (simp only [tupV]; rw [hk6]; rfl) | (simp only [tupV]; rw [show l.length = 0 from by omega]; rfl)))

theorem ProgFirst_own : ownKnob Try.prog.godebug = none := by kernel_rfl
theorem ProgFirst_laid : laidOutB Try.prog = true := by kernel_rfl
set_option maxRecDepth 100000 in
theorem ProgFirst_lifted (os : Os) (started : os.Started) (H : Type) (enc : TypeId × Value → H) :
    ReturnsInHanded {} Try.checked os 4 .any (Rows.progFirstSpec.pre6 enc Try.prog Try.f4 Rows.progFirstRow.domain false) (Rows.progFirstSpec.post enc Try.prog Try.f4 false true false false) := by
  refine returnsInHanded_of_change (C := Try.checked) ProgFirst_own started (by kernel_rfl) Try.func4
    (ChangeSpec.witness6 (enc := enc) (C := Try.checked) false ⟨#[], #[.slice none 0 0], []⟩ 8 (by kernel_rfl) (by kernel_rfl) (by kernel_rfl) (by kernel_rfl)) ?_
  intro W base args ds gs before hval0 hW _ _
  have hval : ∀ (j : Nat) t v, Try.f4.params[j]? = some t → args[j]? = some v → Value.okWide Try.prog W .any base t v := hval0
  have hW' := hW
  obtain ⟨p, q, hA0, hV, rfl, _, _⟩ := hW
  obtain ⟨rfl, rfl⟩ := trodVars_none hV
  have hA : DataW.TrodAll enc Try.prog W 0 (fun _ => true) true Try.f4.params.toList args.toList ds p := hA0
  rw [Try.params4] at hA hval
  obtain ⟨v0, d0, rfl, rfl, h0⟩ := trodAll_one hA
  obtain ⟨a0, n0, c0, Hc0, els0, rfl, q01, q02, q03, q04, q05, q06, q07⟩ := open_slice Try.underlying22 4 (ks := [.i .i64, .i .i64]) (by kernel_rfl) (by kernel_rfl) (by decide) (hval 0 22 _ rfl rfl) h0
  obtain ⟨L0, rfl, hL0⟩ := pairs_of q04
  have s0 : Has Hc0 a0 (cellsI L0) := q05
  rw [List.length_map] at q01
  refine (RC.run (ProgFirst_rc Hc0 a0 n0 c0 (L0.take (min n0 63)) q02 (by rw [List.length_take]; omega) (by rw [cells_take]; exact s0.take _)) q06).mono fun e W' ⟨he, hb⟩ => ?_
  subst he
  exact ⟨_, rfl, law_post ProgFirst_laid (by decide +kernel) rfl Try.underlying4 rfl (fun ds h => by match ds, h with | [d0], _ => rfl) rfl hW' hb⟩

theorem ProgFirst_holds : Rows.ProgFirstSaid :=
  OpenClaim.holds_of_wide 4 Try.f4 rfl rfl rfl rfl rfl rfl rfl ⟨rfl, rfl, rfl, rfl, rfl⟩ rfl rfl rfl rfl rfl (by kernel_rfl) Try.func4 (by kernel_rfl)
    (of_decide_eq_true (by kernel_rfl)) (by unfold Func.isWrapper; first | (rw [if_pos (by decide +kernel)]; kernel_rfl) | (rw [if_neg (by decide +kernel)]; exact ⟨rfl, rfl⟩))
    (fun os started H enc _ => ProgFirst_lifted os started H enc)

end Go.Proofs.Ytjgilhbponfaaaa
