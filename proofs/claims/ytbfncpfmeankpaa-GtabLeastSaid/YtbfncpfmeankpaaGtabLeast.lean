/- GtabLeast: the law holds of every input. -/
import Derived.Test.YtbfncpfmeankpaaKB
namespace Go.Proofs.Ytbfncpfmeankpaa
open Go Go.RowKit Bw Go.ChangeShapes Go.WideShapes Go.ChangeAt
set_option linter.unusedSimpArgs false
set_option linter.unusedVariables false
attribute [local irreducible] OC RC DC XC


theorem deed_cells {l : List Value} (h : MatchK [.i .i64, .i .i64, .i .u32, .i .i64] l) : ∃ k p g s, l = [.int .i64 k, .int .i64 p, .int .u32 g, .int .i64 s] := by
  have h5 := h.length
  match l, h5, h with
  | [v1, v2, v3, v4], _, h =>
    obtain ⟨⟨a, rfl, ha⟩, ⟨i, rfl, hi⟩, ⟨b, rfl, hb⟩, ⟨p, rfl, hp⟩, _⟩ := h
    exact ⟨a, i, b, p, rfl⟩
theorem id_cells {l : List Value} (h : MatchK [.i .i64, .i .u32] l) : ∃ p g, l = [.int .i64 p, .int .u32 g] := by
  have h5 := h.length
  match l, h5, h with
  | [v1, v2], _, h =>
    obtain ⟨⟨a, rfl, ha⟩, ⟨i, rfl, hi⟩, _⟩ := h
    exact ⟨a, i, rfl⟩
theorem deeds_of : ∀ {els : List (List Value)}, (∀ x ∈ els, MatchK [.i .i64, .i .i64, .i .u32, .i .i64] x) → ∃ l : List Deed, els = l.map deedC
  | [], _ => ⟨[], rfl⟩
  | x :: els, h => by
    obtain ⟨l, hl⟩ := deeds_of (els := els) fun y hy => h y (List.mem_cons_of_mem _ hy)
    obtain ⟨a, i, b, p, rfl⟩ := deed_cells (h x (List.mem_cons_self ..))
    exact ⟨⟨a, i, b, p⟩ :: l, by rw [hl]; rfl⟩

theorem live_head : ∀ {i : Nat} {l : List Pl} {p g : Int} {rest : List (Int × Int)}, liveFrom i l = (p, g) :: rest → ∃ (j : Nat) (x : Pl), p = ((i + j : Nat) : Int) ∧ l[j]? = some x ∧ x.st ≠ 0 ∧ x.gen = g ∧ liveFrom i (l.set j { x with st := 0 }) = rest
  | i, [], p, g, rest, h => by cases h
  | i, y :: l, p, g, rest, h => by
    by_cases h0 : y.st = 0
    · rw [liveFrom, if_neg (fun h1 => h1 h0)] at h
      obtain ⟨j, x, e1, e2, e3, e4, e5⟩ := live_head h
      refine ⟨j + 1, x, by rw [e1]; omega, by simpa using e2, e3, e4, ?_⟩
      rw [List.set_cons_succ, liveFrom, if_neg (fun h1 => h1 h0)]; exact e5
    · rw [liveFrom, if_pos h0] at h
      simp only [List.cons.injEq, Prod.mk.injEq] at h
      obtain ⟨⟨rfl, rfl⟩, rfl⟩ := h
      refine ⟨0, y, rfl, rfl, h0, rfl, ?_⟩
      rw [List.set_cons_zero, liveFrom, if_neg (fun h1 => h1 rfl)]
theorem rel_facts {t : Tb} {p g : Int} {rest : List (Int × Int)} (ho : t.ok) (h : ids t.l t.l.length = (p, g) :: rest) : ∃ t2, relE t p g = 0 ∧ relS t p g = t2 ∧ t2.ok ∧ staB t2.l p g = false ∧ movE t2 p g 2 = 6 ∧ movS t2 p g 2 = t2 ∧ relE t2 p g = 6 ∧ relS t2 p g = t2 ∧ t2.many = t.many - 1 ∧ ids t2.l t2.l.length = rest := by
  rw [ids_all] at h
  obtain ⟨j, x, rfl, hx, h0, rfl, hr⟩ := live_head h
  rw [Nat.zero_add]
  have hf := findP_in hx h0
  obtain ⟨e1, e2⟩ := rel_in hf
  have hno : findP (t.l.set j { x with st := 0 }) (j : Nat) x.gen = none := by
    cases hq : findP (t.l.set j { x with st := 0 }) (j : Nat) x.gen with
    | none => rfl
    | some y =>
      obtain ⟨j', x'⟩ := y
      obtain ⟨a1, a2, a3, a4, a5⟩ := findP_some hq
      obtain rfl : j = j' := by omega
      rw [set_get hx] at a3
      exact absurd (by rw [← Option.some.inj a3]) a4
  refine ⟨_, e1, e2, by rw [← e2]; exact rel_ok ho, ?_, ?_, ?_, ?_, ?_, rfl, by rw [ids_all]; exact hr⟩
  · show staB (t.l.set j _) _ _ = false; unfold staB; rw [hno]
  · exact (mov_out (t := ⟨t.l.set j { x with st := 0 }, t.many - 1⟩) hno).1
  · exact (mov_out (t := ⟨t.l.set j { x with st := 0 }, t.many - 1⟩) hno).2
  · exact (rel_out (t := ⟨t.l.set j { x with st := 0 }, t.many - 1⟩) hno).1
  · exact (rel_out (t := ⟨t.l.set j { x with st := 0 }, t.many - 1⟩) hno).2
theorem many_ids {t : Tb} (ho : t.ok) : t.many = ((ids t.l t.l.length).length : Nat) := by rw [ids_all, liveFrom_len]; exact ho.many

def lst (a : Int) (o : List (Int × Int)) : Int := o.foldl (fun a x => if x.1 = a then a + 1 else a) a
theorem lst_stuck : ∀ (l : List Pl) (i : Nat) (a : Int), a < i → lst a (liveFrom i l) = a
  | [], _, _, _ => rfl
  | x :: l, i, a, h => by
    have ih := lst_stuck l (i + 1) a (by omega)
    by_cases h0 : x.st = 0
    · rw [liveFrom, if_neg (fun h1 => h1 h0)]; exact ih
    · rw [liveFrom, if_pos h0]
      show lst (if (i : Int) = a then a + 1 else a) _ = a
      rw [if_neg (by omega)]; exact ih
theorem lst_free : ∀ (l : List Pl) (i j : Nat), free l = some j → lst i (liveFrom i l) = ((i + j : Nat) : Int)
  | [], _, _, h => by cases h
  | x :: l, i, j, h => by
    by_cases h0 : x.st = 0
    · have hj : j = 0 := by
        unfold free at h; rw [List.findIdx?_cons] at h; simp [h0] at h; exact h.symm
      subst hj
      rw [liveFrom, if_neg (fun h1 => h1 h0), Nat.add_zero]
      exact lst_stuck l (i + 1) i (by omega)
    · have hf : ∃ k, free l = some k ∧ j = k + 1 := by
        unfold free at h ⊢; rw [List.findIdx?_cons] at h
        simp [h0] at h
        obtain ⟨k, hk, hk2⟩ := h
        exact ⟨k, hk, hk2.symm⟩
      obtain ⟨k, hk, rfl⟩ := hf
      have ih := lst_free l (i + 1) k hk
      rw [liveFrom, if_pos h0]
      show lst (if (i : Int) = i then (i : Int) + 1 else i) _ = _
      rw [if_pos rfl, show (i : Int) + 1 = ((i + 1 : Nat) : Int) by omega, ih]; omega
theorem lst_succ {o : List (Int × Int)} {i : Nat} {x : Int × Int} (hx : o[i]? = some x) : lst 0 (o.take (i + 1)) = if x.1 = lst 0 (o.take i) then lst 0 (o.take i) + 1 else lst 0 (o.take i) := by
  have e1 : o.take (i + 1) = o.take i ++ [x] := by rw [List.take_add_one, hx]; rfl
  rw [e1]; unfold lst; rw [List.foldl_append]; rfl
theorem lst_rng (o : List (Int × Int)) : ∀ i : Nat, i ≤ o.length → 0 ≤ lst 0 (o.take i) ∧ lst 0 (o.take i) ≤ i
  | 0, _ => by simp [lst]
  | i + 1, h => by
    obtain ⟨x, hx⟩ : ∃ x, o[i]? = some x := ⟨_, List.getElem?_eq_getElem (by omega)⟩
    have := lst_rng o i (by omega)
    rw [lst_succ hx]; split <;> omega
theorem full_ids {t : Tb} (h : free t.l = none) : (ids t.l t.l.length).length = t.l.length := by
  rw [ids_all, liveFrom_len, List.countP_eq_length]
  intro x hx
  have := free_none h x hx
  simp [live1, this]

set_option maxHeartbeats 4000000 in
set_option maxRecDepth 4000 in
theorem GtabLeast_rc (H : Hp) (n : Int) (hn : 0 ≤ n ∧ n < 256) (a : Option Addr) (m c : Nat) (l : List Deed) (hm : m ≤ c) (hc : l.length = c) (hs : Has H a (cellsD l)) : RC Try.prog 5 #[.int .u8 n, .slice a m c] H (.bool true) := by
  all_goals (try unfold RC)
  all_goals (try unfold DC)
  all_goals refine OC.of_sw Try.func5 rfl Try.ntmps5 (Nat.le_of_ble_eq_true rfl) fun C => ?_
  repeat' (first
    | ((with_reducible apply SW.bloopI (id := 0) (α := Nat) (Inv := (fun i => i ≤ (ids t.l t.l.length).length)) (I := (fun (i : Nat) => [(5, .pointer (some ⟨b, 0, none⟩)), (9, .slice (oA vo) (ids t.l t.l.length).length (oC vo)), (10, .pointer (some ⟨ci, 0, none⟩)), (12, .int .i64 (lst 0 ((ids t.l t.l.length).take i))), (13, .int .i64 (i : Nat))])) (J := (fun (_ : Nat) => (ci, .row 28 [.int .i64 (j : Nat), .int .u32 (gen1 x.gen)] 0) :: tbH b (alcS t) v (oH 28 vo (cellsI (ids t.l t.l.length)) H))) (μ := (fun i => (ids t.l t.l.length).length - i)) (x0 := 0)); (exact Nat.zero_le _); (apply Exists.intro; apply And.intro; (focus (repeat (first | exact trivial | refine ⟨rfl, ?_⟩))); (focus (repeat (first | exact Rems.all | exact Rems.nil | (apply Rems.own; (focus (repeat (first | exact OIn.here | apply OIn.there | apply OIn.over)))) | (apply Rems.cons; (focus (repeat (first | assumption | exact Rem.here | apply Rem.there | apply Rem.oH)))) | apply Rems.skip | apply Rems.oskip)))); (rintro i hi; (try dsimp only at hi); have hlr := lst_rng (ids t.l t.l.length) i hi; rcases Nat.lt_or_ge i (ids t.l t.l.length).length with hlt | hge; (case' inr => (obtain rfl : i = (ids t.l t.l.length).length := (by omega); rw [List.take_length] at hlr ⊢; have hlf2 : lst 0 (ids t.l t.l.length) = (j : Int) := hlf; rw [hlf2])); (case' inl => (obtain ⟨q, hq⟩ : ∃ q, (ids t.l t.l.length)[i]? = some q := ⟨_, List.getElem?_eq_getElem hlt⟩; have hne := i_ne hq; have hso := Has.mine (e := 28) (H := H) hvo; have hia := hso.isa hne; have xp := i_p hq; have hls := lst_succ hq; rcases Decidable.em (q.1 = lst 0 ((ids t.l t.l.length).take i)) with hqe | hqe)); (case' inl.inl => rw [if_pos hqe] at hls); (case' inl.inr => rw [if_neg hqe] at hls)))
    | ((refine Exists.intro (i + 1) ?_); (apply Exists.intro); (refine ⟨?_, ?_, ?_, ?_⟩); (omega); (focus (rw [hls]; (focus (repeat (first | exact trivial | refine ⟨rfl, ?_⟩))))); (focus (repeat (first | exact Rems.all | exact Rems.nil | (apply Rems.own; (focus (repeat (first | exact OIn.here | apply OIn.there | apply OIn.over)))) | (apply Rems.cons; (focus (repeat (first | assumption | exact Rem.here | apply Rem.there | apply Rem.oH)))) | apply Rems.skip | apply Rems.oskip))); (omega))
    | ((with_reducible apply G.at); rfl; first
       | ((with_reducible apply G.move); rfl; rfl) | ((with_reducible apply G.assign); rfl; rfl)
       | ((with_reducible apply G.load0); rfl; rfl; (focus (repeat (first | exact List.Mem.head _ | assumption | apply List.Mem.tail | apply mem_oH))); rfl) | ((with_reducible apply G.load1); rfl; rfl; (focus (repeat (first | exact List.Mem.head _ | assumption | apply List.Mem.tail | apply mem_oH))); rfl)
       | ((with_reducible apply G.loadS0); rfl; rfl; (focus (repeat (first | assumption | exact Has.row (List.Mem.head _) | (apply Has.mine; assumption) | apply Has.tail | apply Has.oH | exact Has.nil))); assumption; (first | assumption | rfl)) | ((with_reducible apply G.loadS1); rfl; rfl; (first | assumption | exact Has.row (List.Mem.head _)); (focus (intro p hp; repeat (first | assumption | apply List.Mem.tail | apply mem_oH))); assumption; (first | assumption | rfl); intro _ _ _)
       | ((with_reducible apply G.faddrh (k := 0)); rfl; rfl; rfl) | ((with_reducible apply G.faddrh (k := 1)); rfl; rfl; rfl) | ((with_reducible apply G.faddrh (k := 2)); rfl; rfl; rfl) | ((with_reducible apply G.faddrh (k := 3)); rfl; rfl; rfl) | ((with_reducible apply G.faddrh (k := 4)); rfl; rfl; rfl) | ((with_reducible apply G.faddrh (k := 5)); rfl; rfl; rfl) | ((with_reducible apply G.faddrh (k := 6)); rfl; rfl; rfl) | ((with_reducible apply G.faddrh (k := 7)); rfl; rfl; rfl)
       | ((with_reducible apply G.faddrS (d := 0)); rfl; rfl; rfl; assumption) | ((with_reducible apply G.faddrS (d := 1)); rfl; rfl; rfl; assumption) | ((with_reducible apply G.faddrS (d := 2)); rfl; rfl; rfl; assumption) | ((with_reducible apply G.faddrS (d := 3)); rfl; rfl; rfl; assumption) | ((with_reducible apply G.faddrS (d := 4)); rfl; rfl; rfl; assumption) | ((with_reducible apply G.faddrS (d := 5)); rfl; rfl; rfl; assumption) | ((with_reducible apply G.faddrS (d := 6)); rfl; rfl; rfl; assumption) | ((with_reducible apply G.faddrS (d := 7)); rfl; rfl; rfl; assumption)
       | ((with_reducible apply G.remc); rfl; rfl; rfl; omega; omega; rfl)
       | ((with_reducible apply G.iaddrS (size := 2) (j := i)); rfl; rfl; rfl; rfl; assumption; (first | rfl | omega); (first | assumption | omega))
       | ((with_reducible apply G.alloc (e := 28)); rfl; rfl; rfl; intro ci)
       | ((with_reducible apply G.hcall (f := 20)); rfl; rfl; exact Try.call20; ((apply play_oc (hn := hn) (hm := hm) (hc := hc)); (focus (repeat (first | assumption | exact Has.row (List.Mem.head _) | (apply Has.mine; assumption) | apply Has.tail | apply Has.oH | exact Has.nil)))); (rintro _ _ ⟨t, v, v1, v2, b, br, rfl, rfl, hst, hv, hv2⟩; (focus (repeat (first | exact StOk.nil | (refine StOk.keep ?_ ?_; (focus ((repeat (first | exact List.Mem.head _ | assumption | apply List.Mem.tail | apply mem_oH)); done))) | refine StOk.gone (by kernel_rfl) ?_)))); (rintro _ _ ⟨t, v, v1, v2, b, br, rfl, rfl, hst, hv, hv2⟩; have ho := hst.ok; have hlen := hst.len; have hil := Nat.le_trans (ids_len t.l t.l.length) ho.len; have hmi := many_ids ho; have hmr := many_rng ho; rcases hfr : free t.l with _ | j; (case' none => (obtain ⟨r0, r1, r2, r3, r4⟩ := alc_out hfr; have hfi := full_ids hfr)); (case' some => (obtain ⟨x, hx, h0, hall⟩ := free_some hfr; obtain ⟨r0, r1, r2, r3, r4⟩ := alc_in hfr hx; have hgg := hst.gen x (List.mem_of_getElem? hx); have hg1 := gen1_in hgg.1 (by omega); have hlf := lst_free t.l 0 j hfr; rw [Nat.zero_add, ← ids_all] at hlf; have hmm : (alcS t).many = t.many + 1 := (by rw [r4]))); all_goals have hA := fun (F1 : Hp) h0 => alc_oc t v b F1 ho h0; all_goals rw [r1, r2, r3] at hA))
       | ((with_reducible apply G.rcall (f := 17)); rfl; rfl; exact Try.call17; exact live_dc.rc; (focus (repeat (first | exact StOk.nil | (refine StOk.keep ?_ ?_; (focus ((repeat (first | exact List.Mem.head _ | assumption | apply List.Mem.tail | apply mem_oH)); done))) | refine StOk.gone (by kernel_rfl) ?_))))
       | ((with_reducible apply G.gcall (f := 21)); rfl; rfl; exact Try.call21; ((apply lives_oc (t := t) (ho := ho)); rotate_left; assumption); (focus (repeat (first | exact Pick.rest | ((with_reducible apply Pick.own); (focus (repeat (first | exact OIn.here | apply OIn.there | apply OIn.over)))) | ((with_reducible apply Pick.cons); (focus (repeat (first | assumption | exact Rem.here | apply Rem.there | apply Rem.oH))))))); (rintro _ _ ⟨vo, rfl, rfl, hvo⟩; (focus (repeat (first | exact StOk.nil | (refine StOk.keep ?_ ?_; (focus ((repeat (first | exact List.Mem.head _ | assumption | apply List.Mem.tail | apply mem_oH)); done))) | refine StOk.gone (by kernel_rfl) ?_)))); (rintro _ _ ⟨vo, rfl, rfl, hvo⟩))
       | ((with_reducible apply G.gcall (f := 14)); rfl; rfl; exact Try.call14; ((apply hA); rotate_left; assumption); (focus (repeat (first | exact Pick.rest | ((with_reducible apply Pick.own); (focus (repeat (first | exact OIn.here | apply OIn.there | apply OIn.over)))) | ((with_reducible apply Pick.cons); (focus (repeat (first | assumption | exact Rem.here | apply Rem.there | apply Rem.oH))))))); (rintro _ _ ⟨rfl, rfl, hw1⟩; (focus (repeat (first | exact StOk.nil | (refine StOk.keep ?_ ?_; (focus ((repeat (first | exact List.Mem.head _ | assumption | apply List.Mem.tail | apply mem_oH)); done))) | refine StOk.gone (by kernel_rfl) ?_)))); (rintro _ _ ⟨rfl, rfl, hw1⟩))
       | ((with_reducible apply G.rcall (f := 15)); rfl; rfl; exact Try.call15; ((apply len_rc (t := alcS t) (v := v)); (focus ((repeat (first | exact List.Mem.head _ | assumption | apply List.Mem.tail | apply mem_oH)); done))); (focus (repeat (first | exact StOk.nil | (refine StOk.keep ?_ ?_; (focus ((repeat (first | exact List.Mem.head _ | assumption | apply List.Mem.tail | apply mem_oH)); done))) | refine StOk.gone (by kernel_rfl) ?_))))
       | ((with_reducible apply G.nilck); rfl; rfl) | ((with_reducible apply G.extract); rfl; rfl; rfl) | ((with_reducible apply G.len); rfl; rfl; rfl) | ((with_reducible apply G.pick1); rfl; rfl; rfl) | ((with_reducible apply G.pick0); rfl; rfl; rfl) | ((with_reducible apply G.unw); rfl) | ((with_reducible apply G.unw0); rfl)
       | ((with_reducible apply G.boxa); rfl; rfl; intro b) | ((with_reducible apply G.box); rfl; rfl; intro b) | ((with_reducible apply G.alloc); rfl; rfl; rfl; intro b)
       | ((with_reducible apply G.store); rfl; rfl; rfl; rfl; rfl; rfl; (focus (repeat (first | assumption | exact Rem.here | apply Rem.there | apply Rem.oH))); (exact Nat.le_of_ble_eq_true rfl); (focus (repeat (first | exact StOk.nil | (refine StOk.keep ?_ ?_; (focus ((repeat (first | exact List.Mem.head _ | assumption | apply List.Mem.tail | apply mem_oH)); done))) | refine StOk.gone (by kernel_rfl) ?_))); rfl)
       | ((with_reducible apply G.build); rfl; rfl; rfl) | ((with_reducible apply G.eqs); rfl; rfl; rfl; rfl; (kernel_rfl); (kernel_rfl)) | ((with_reducible apply G.nes); rfl; rfl; rfl; rfl; (kernel_rfl); (kernel_rfl))
       | ((with_reducible apply G.num); rfl; rfl; rfl; rfl; rfl; (first | ((with_reducible apply shl8); omega; omega) | ((with_reducible apply shl16); omega; omega) | ((with_reducible apply or8); omega; omega; omega; omega) | ((with_reducible apply or16); omega; omega; omega; omega) | ((with_reducible apply or24); omega; omega; omega; omega; omega; omega) | ((with_reducible apply i64_in); omega; omega) | ((with_reducible apply wrap8_in); omega; omega) | ((with_reducible apply u64_in); omega; omega) | with_reducible exact shr16 _ | with_reducible exact shr8 _ | with_reducible exact wrap8_mod _ | with_reducible exact shr32u _ | ((with_reducible apply and32u); omega; omega) | with_reducible exact wrap64_mod _))
       | ((with_reducible apply G.min2); rfl; rfl; rfl; (first | (apply if_pos; omega) | (apply if_neg; omega) | rfl)) | ((with_reducible apply G.max2); rfl; rfl; rfl; (first | (apply if_pos; omega) | (apply if_neg; omega) | rfl))
       | ((with_reducible apply G.pure); rfl; rfl; rfl; rfl; rfl)
       | ((with_reducible apply G.known true); rfl; rfl; rfl; (focus (first | with_reducible rfl | ((with_reducible apply decide_eq_true); omega) | ((with_reducible apply decide_eq_false); omega) | ((with_reducible apply beq_iff_eq.2); omega) | ((with_reducible apply beq_eq_false_iff_ne.2); omega) | ((with_reducible apply bne_iff_ne.2); omega) | ((with_reducible apply bne_eq_false_iff_eq.2); omega) | ((with_reducible apply bnot_t); omega) | ((with_reducible apply bnot_f); omega) | ((with_reducible apply dnot_t); omega) | ((with_reducible apply dnot_f); omega) | (simp; done)))) | ((with_reducible apply G.known false); rfl; rfl; rfl; (focus (first | with_reducible rfl | ((with_reducible apply decide_eq_true); omega) | ((with_reducible apply decide_eq_false); omega) | ((with_reducible apply beq_iff_eq.2); omega) | ((with_reducible apply beq_eq_false_iff_ne.2); omega) | ((with_reducible apply bne_iff_ne.2); omega) | ((with_reducible apply bne_eq_false_iff_eq.2); omega) | ((with_reducible apply bnot_t); omega) | ((with_reducible apply bnot_f); omega) | ((with_reducible apply dnot_t); omega) | ((with_reducible apply dnot_f); omega) | (simp; done))))
       | ((with_reducible apply G.split); rfl; rfl; rfl; all_goals (intro h; first | replace h := beq_t h | replace h := beq_f h | replace h := bne_t h | replace h := bne_f h | replace h := of_decide_eq_true h | replace h := of_decide_eq_false h | skip)))
    | with_reducible apply RG.done | with_reducible apply Q.tn | with_reducible apply Q.tr | with_reducible apply Q.te | with_reducible apply Q.bn | with_reducible apply Q.br | with_reducible apply Q.be | ((with_reducible apply Q.bx); decide) | with_reducible apply Q.tp | with_reducible apply Q.bp
    | with_reducible apply SW.seq | with_reducible apply SW.block | with_reducible apply SW.ret | with_reducible apply SW.skip | with_reducible apply SW.exit
    | ((with_reducible apply SW.cond1); rfl; (focus (first | with_reducible rfl | ((with_reducible apply decide_eq_true); omega) | ((with_reducible apply decide_eq_false); omega) | ((with_reducible apply beq_iff_eq.2); omega) | ((with_reducible apply beq_eq_false_iff_ne.2); omega) | ((with_reducible apply bne_iff_ne.2); omega) | ((with_reducible apply bne_eq_false_iff_eq.2); omega) | ((with_reducible apply bnot_t); omega) | ((with_reducible apply bnot_f); omega) | ((with_reducible apply dnot_t); omega) | ((with_reducible apply dnot_f); omega) | (simp; done)))) | ((with_reducible apply SW.cond0); rfl; (focus (first | with_reducible rfl | ((with_reducible apply decide_eq_true); omega) | ((with_reducible apply decide_eq_false); omega) | ((with_reducible apply beq_iff_eq.2); omega) | ((with_reducible apply beq_eq_false_iff_ne.2); omega) | ((with_reducible apply bne_iff_ne.2); omega) | ((with_reducible apply bne_eq_false_iff_eq.2); omega) | ((with_reducible apply bnot_t); omega) | ((with_reducible apply bnot_f); omega) | ((with_reducible apply dnot_t); omega) | ((with_reducible apply dnot_f); omega) | (simp; done))))
    | ((with_reducible apply SW.cond); rfl; all_goals (intro h; first | replace h := beq_t h | replace h := beq_f h | replace h := bne_t h | replace h := bne_f h | replace h := of_decide_eq_true h | replace h := of_decide_eq_false h | skip))
    | ((with_reducible apply SW.region0); kernel_rfl; rfl))
  all_goals ((apply Q.rret (.cons (by first | exact .tmp rfl | exact .cell rfl (by repeat (first | exact List.Mem.head _ | apply List.Mem.tail)) rfl) .nil)); ((focus (repeat (first | exact Rems.all | exact Rems.nil | (apply Rems.own; (focus (repeat (first | exact OIn.here | apply OIn.there | apply OIn.over)))) | (apply Rems.cons; (focus (repeat (first | assumption | exact Rem.here | apply Rem.there | apply Rem.oH)))) | apply Rems.skip | apply Rems.oskip)))); (first | rfl | (simp [tupV]; done) | (simp [tupV]; omega)))

theorem GtabLeast_own : ownKnob Try.prog.godebug = none := by kernel_rfl
theorem GtabLeast_laid : laidOutB Try.prog = true := by kernel_rfl
set_option maxRecDepth 100000 in
theorem GtabLeast_lifted (os : Os) (started : os.Started) (H : Type) (enc : TypeId × Value → H) :
    ReturnsInHanded {} Try.checked os 5 .any (Rows.gtabLeastSpec.pre6 enc Try.prog Try.f5 Rows.gtabLeastRow.domain false) (Rows.gtabLeastSpec.post enc Try.prog Try.f5 false true false false) := by
  refine returnsInHanded_of_change (C := Try.checked) GtabLeast_own started (by kernel_rfl) Try.func5
    (ChangeSpec.witness6 (enc := enc) (C := Try.checked) false ⟨#[], #[.int .u8 0, .slice none 0 0], []⟩ 8 (by kernel_rfl) (by kernel_rfl) (by kernel_rfl) (by kernel_rfl)) ?_
  intro W base args ds gs before hval0 hW _ _
  have hval : ∀ (j : Nat) t v, Try.f5.params[j]? = some t → args[j]? = some v → Value.okWide Try.prog W .any base t v := hval0
  have hW' := hW
  obtain ⟨p, q, hA0, hV, rfl, _, _⟩ := hW
  obtain ⟨rfl, rfl⟩ := trodVars_none hV
  have hA : DataW.TrodAll enc Try.prog W 0 (fun _ => true) true Try.f5.params.toList args.toList ds p := hA0
  rw [Try.params5] at hA hval
  obtain ⟨v0, v1, d0, d1, p0, p1, rfl, rfl, rfl, h0, h1⟩ := trodAll_two hA

  obtain ⟨x0, rfl, _, _, w0⟩ := open_int Try.underlying5 (hval 0 5 _ rfl rfl) h0
  obtain ⟨a1, n1, c1, Hc1, els1, rfl, q11, q12, q13, q14, q15, q16, q17⟩ := open_slice Try.underlying22 4 (ks := [.i .i64, .i .i64, .i .u32, .i .i64]) (by kernel_rfl) (by kernel_rfl) (by decide) (hval 1 22 _ rfl rfl) h1
  obtain ⟨L1, rfl⟩ := deeds_of q14
  have s1 : Has Hc1 a1 (cellsD L1) := q15
  rw [List.length_map] at q11
  refine (RC.run (GtabLeast_rc Hc1 x0 (okI_u8 w0) a1 n1 c1 L1 q12 q11 s1) q16).mono fun e W' ⟨he, hb⟩ => ?_
  subst he
  exact ⟨_, rfl, law_post GtabLeast_laid (by decide +kernel) rfl Try.underlying4 rfl (fun ds h => by match ds, h with | [d0, d1], _ => rfl) rfl hW' hb⟩

theorem GtabLeast_holds : Rows.GtabLeastSaid :=
  OpenClaim.holds_of_wide 5 Try.f5 rfl rfl rfl rfl rfl rfl rfl ⟨rfl, rfl, rfl, rfl, rfl⟩ rfl rfl rfl rfl rfl (by kernel_rfl) Try.func5 (by kernel_rfl)
    (of_decide_eq_true (by kernel_rfl)) (by unfold Func.isWrapper; first | (rw [if_pos (by decide +kernel)]; kernel_rfl) | (rw [if_neg (by decide +kernel)]; exact ⟨rfl, rfl⟩))
    (fun os started H enc _ => GtabLeast_lifted os started H enc)

end Go.Proofs.Ytbfncpfmeankpaa
