/- GtabMoves: the law holds of every input. -/
import Derived.Test.YtbfncpfmeankpaaKD
namespace Go.Proofs.Ytbfncpfmeankpaa
open Go Go.RowKit Bw Go.ChangeShapes Go.WideShapes Go.ChangeAt
set_option linter.unusedSimpArgs false
set_option linter.unusedVariables false
attribute [local irreducible] OC RC DC XC


theorem deed_cells {l : List Value} (h : MatchK [.i .i64, .i .i64, .i .u32, .i .i64] l) : ∃ k p g s, l = [.int .i64 k, .int .i64 p, .int .u32 g, .int .i64 s] := by
  have h5 := h.length
  match l, h5, h with
  | [v1, v2, v3, v4], _, h =>
    obtain ⟨⟨a, rfl, ha⟩, ⟨i, rfl, hi⟩, ⟨b, rfl, hb⟩, ⟨p, rfl, hp⟩, _⟩ := h
    exact ⟨a, i, b, p, rfl⟩
theorem id_cells {l : List Value} (h : MatchK [.i .i64, .i .u32] l) : ∃ p g, l = [.int .i64 p, .int .u32 g] := by
  have h5 := h.length
  match l, h5, h with
  | [v1, v2], _, h =>
    obtain ⟨⟨a, rfl, ha⟩, ⟨i, rfl, hi⟩, _⟩ := h
    exact ⟨a, i, rfl⟩
theorem deeds_of : ∀ {els : List (List Value)}, (∀ x ∈ els, MatchK [.i .i64, .i .i64, .i .u32, .i .i64] x) → ∃ l : List Deed, els = l.map deedC
  | [], _ => ⟨[], rfl⟩
  | x :: els, h => by
    obtain ⟨l, hl⟩ := deeds_of (els := els) fun y hy => h y (List.mem_cons_of_mem _ hy)
    obtain ⟨a, i, b, p, rfl⟩ := deed_cells (h x (List.mem_cons_self ..))
    exact ⟨⟨a, i, b, p⟩ :: l, by rw [hl]; rfl⟩

theorem findP_set {l : List Pl} {j : Nat} {x : Pl} {s : Int} (hx : l[j]? = some x) (h0 : x.st ≠ 0) (hs : s ≠ 0) (p g : Int) : findP (l.set j { x with st := s }) p g = if p = j ∧ g = x.gen then some (j, { x with st := s }) else findP l p g := by
  have hj := (List.getElem?_eq_some_iff.1 hx).1
  by_cases hp : p = j
  · subst hp
    have h2 := set_get (y := { x with st := s }) hx
    by_cases hg : g = x.gen
    · subst hg
      rw [if_pos ⟨rfl, rfl⟩]
      exact findP_in (x := { x with st := s }) h2 hs
    · rw [if_neg (fun h => hg h.2)]
      have e1 : findP l (j : Nat) g = none := by
        cases hq : findP l (j : Nat) g with
        | none => rfl
        | some y => obtain ⟨j', x'⟩ := y; obtain ⟨a1, _, a3, _, a5⟩ := findP_some hq; obtain rfl : j = j' := (by omega); rw [hx] at a3; obtain rfl := Option.some.inj a3; exact absurd a5.symm hg
      have e2 : findP (l.set j { x with st := s }) (j : Nat) g = none := by
        cases hq : findP (l.set j { x with st := s }) (j : Nat) g with
        | none => rfl
        | some y => obtain ⟨j', x'⟩ := y; obtain ⟨a1, _, a3, _, a5⟩ := findP_some hq; obtain rfl : j = j' := (by omega); rw [h2] at a3; obtain rfl := Option.some.inj a3; exact absurd a5.symm hg
      rw [e1, e2]
  · rw [if_neg (fun h => hp h.1)]
    unfold findP
    rw [List.length_set]
    by_cases hin : 0 ≤ p ∧ p < l.length
    · rw [if_pos hin, if_pos hin, List.getElem?_set, if_neg (by omega)]
    · rw [if_neg hin, if_neg hin]
theorem mvs (t : Tb) (p g s : Int) : (staB t.l p g = false ∧ movE t p g s = 6) ∨ (staB t.l p g = true ∧ mayP (staV t.l p g) s = true ∧ movE t p g s = 0 ∧ staV (movS t p g s).l p g = s) ∨ (staB t.l p g = true ∧ mayP (staV t.l p g) s = false ∧ movE t p g s = 11 ∧ staV (movS t p g s).l p g = staV t.l p g) := by
  cases hf : findP t.l p g with
  | none => exact .inl ⟨by unfold staB; rw [hf], (mov_out hf).1⟩
  | some q =>
    obtain ⟨j, x⟩ := q
    obtain ⟨rfl, hj, hx, h0, rfl⟩ := findP_some hf
    have e1 : staB t.l (j : Nat) x.gen = true := by unfold staB; rw [hf]
    have e2 : staV t.l (j : Nat) x.gen = x.st := by unfold staV; rw [hf]
    cases hm : mayP x.st s with
    | true =>
      obtain ⟨m1, m2⟩ := mov_in hf hm
      refine .inr (.inl ⟨e1, by rw [e2]; exact hm, m1, ?_⟩)
      rw [m2]; unfold staV; dsimp only
      rw [findP_set hx h0 (may_pos hm), if_pos ⟨rfl, rfl⟩]
    | false =>
      obtain ⟨m1, m2⟩ := mov_no hf hm
      exact .inr (.inr ⟨e1, by rw [e2]; exact hm, m1, by rw [m2]⟩)
theorem mv_other (t : Tb) (p g s p' g' : Int) (h : ¬ (p' = p ∧ g' = g)) : staV (movS t p g s).l p' g' = staV t.l p' g' := by
  cases hf : findP t.l p g with
  | none => rw [(mov_out hf).2]
  | some q =>
    obtain ⟨j, x⟩ := q
    obtain ⟨rfl, hj, hx, h0, rfl⟩ := findP_some hf
    cases hm : mayP x.st s with
    | true =>
      rw [(mov_in hf hm).2]; unfold staV; dsimp only
      rw [findP_set hx h0 (may_pos hm), if_neg h]
    | false => rw [(mov_no hf hm).2]

set_option maxHeartbeats 4000000 in
set_option maxRecDepth 4000 in
theorem GtabMoves_rc (H : Hp) (n : Int) (hn : 0 ≤ n ∧ n < 256) (a : Option Addr) (m c : Nat) (l : List Deed) (hm : m ≤ c) (hc : l.length = c) (hs : Has H a (cellsD l)) (kd p g s : Int) : RC Try.prog 8 #[.int .u8 n, .slice a m c, .agg #[.int .i64 kd, .int .i64 p, .int .u32 g, .int .i64 s]] H (.bool true) := by
  all_goals (try unfold RC)
  all_goals (try unfold DC)
  all_goals refine OC.of_sw Try.func8 rfl Try.ntmps8 (Nat.le_of_ble_eq_true rfl) fun C => ?_
  repeat' (first
    | ((with_reducible apply SW.bloopI (id := 0) (α := Nat) (Inv := (fun i => i ≤ (ids (movS t p g s).l (movS t p g s).l.length).length)) (I := (fun (i : Nat) => [(5, .pointer (some ⟨bx, 0, none⟩)), (7, .pointer (some ⟨b, 0, none⟩)), (10, .int .i64 (staV t.l p g)), (11, .bool (staB t.l p g)), (12, .pointer (some ⟨bf, 0, none⟩)), (13, .int .i64 (movE t p g s)), (14, .int .i64 (staV (movS t p g s).l p g)), (16, .slice (oA vo) (ids (movS t p g s).l (movS t p g s).l.length).length (oC vo)), (17, .int .i64 (i : Nat))])) (J := (fun (_ : Nat) => (bx, .row 31 [.int .i64 kd, .int .i64 p, .int .u32 g, .int .i64 s] 0) :: oH 28 vo (cellsI (ids (movS t p g s).l (movS t p g s).l.length)) (tbH b (movS t p g s) v (tbH bf t w1 H)))) (μ := (fun i => (ids (movS t p g s).l (movS t p g s).l.length).length - i)) (x0 := 0)); (exact Nat.zero_le _); (apply Exists.intro; apply And.intro; (focus (repeat (first | exact trivial | refine ⟨rfl, ?_⟩))); (focus (repeat (first | exact Rems.all | exact Rems.nil | (apply Rems.own; (focus (repeat (first | exact OIn.here | apply OIn.there | apply OIn.over)))) | (apply Rems.cons; (focus (repeat (first | assumption | exact Rem.here | apply Rem.there | apply Rem.oH)))) | apply Rems.skip | apply Rems.oskip)))); (rintro i hi; (try dsimp only at hi); have hso := Has.mine (e := 28) (H := tbH b (movS t p g s) v (tbH bf t w1 H)) hvo; rcases Nat.lt_or_ge i (ids (movS t p g s).l (movS t p g s).l.length).length with hlt | hge; (case' inl => (obtain ⟨q, hx⟩ : ∃ q, (ids (movS t p g s).l (movS t p g s).l.length)[i]? = some q := ⟨_, List.getElem?_eq_getElem hlt⟩; obtain ⟨p2, g2⟩ := q; have hne := i_ne hx; have hia := hso.isa hne; have xn := i_all hx; (rcases Decidable.em (p2 = p ∧ g2 = g) with hpg | hpg); (case' inl => (obtain ⟨hp1, hp2⟩ := hpg; dsimp only at xn; rw [hp1, hp2] at xn)); (case' inr => have hot := mv_other t p g s p2 g2 hpg)))))
    | ((refine Exists.intro (i + 1) ?_); (apply Exists.intro); (refine ⟨?_, ?_, ?_, ?_⟩); (omega); (focus (repeat (first | exact trivial | refine ⟨rfl, ?_⟩))); (focus (repeat (first | exact Rems.all | exact Rems.nil | (apply Rems.own; (focus (repeat (first | exact OIn.here | apply OIn.there | apply OIn.over)))) | (apply Rems.cons; (focus (repeat (first | assumption | exact Rem.here | apply Rem.there | apply Rem.oH)))) | apply Rems.skip | apply Rems.oskip))); (omega))
    | ((with_reducible apply G.at); rfl; first
       | ((with_reducible apply G.move); rfl; rfl) | ((with_reducible apply G.assign); rfl; rfl)
       | ((with_reducible apply G.load0); rfl; rfl; (focus (repeat (first | exact List.Mem.head _ | assumption | apply List.Mem.tail | apply mem_oH))); rfl) | ((with_reducible apply G.load1); rfl; rfl; (focus (repeat (first | exact List.Mem.head _ | assumption | apply List.Mem.tail | apply mem_oH))); rfl)
       | ((with_reducible apply G.loadS0); rfl; rfl; (focus (repeat (first | assumption | exact Has.row (List.Mem.head _) | (apply Has.mine; assumption) | apply Has.tail | apply Has.oH | exact Has.nil))); assumption; (first | assumption | rfl)) | ((with_reducible apply G.loadS1); rfl; rfl; (first | assumption | exact Has.row (List.Mem.head _)); (focus (intro p hp; repeat (first | assumption | apply List.Mem.tail | apply mem_oH))); assumption; (first | assumption | rfl); intro _ _ _)
       | ((with_reducible apply G.faddrh (k := 0)); rfl; rfl; rfl) | ((with_reducible apply G.faddrh (k := 1)); rfl; rfl; rfl) | ((with_reducible apply G.faddrh (k := 2)); rfl; rfl; rfl) | ((with_reducible apply G.faddrh (k := 3)); rfl; rfl; rfl) | ((with_reducible apply G.faddrh (k := 4)); rfl; rfl; rfl) | ((with_reducible apply G.faddrh (k := 5)); rfl; rfl; rfl) | ((with_reducible apply G.faddrh (k := 6)); rfl; rfl; rfl) | ((with_reducible apply G.faddrh (k := 7)); rfl; rfl; rfl)
       | ((with_reducible apply G.faddrS (d := 0)); rfl; rfl; rfl; assumption) | ((with_reducible apply G.faddrS (d := 1)); rfl; rfl; rfl; assumption) | ((with_reducible apply G.faddrS (d := 2)); rfl; rfl; rfl; assumption) | ((with_reducible apply G.faddrS (d := 3)); rfl; rfl; rfl; assumption) | ((with_reducible apply G.faddrS (d := 4)); rfl; rfl; rfl; assumption) | ((with_reducible apply G.faddrS (d := 5)); rfl; rfl; rfl; assumption) | ((with_reducible apply G.faddrS (d := 6)); rfl; rfl; rfl; assumption) | ((with_reducible apply G.faddrS (d := 7)); rfl; rfl; rfl; assumption)
       | ((with_reducible apply G.boxa (e := 31)); rfl; rfl; intro bx)
       | ((with_reducible apply G.box (e := 31)); rfl; rfl; intro bx)
       | ((with_reducible apply G.iaddrS (size := 2) (j := i)); rfl; rfl; rfl; rfl; assumption; (first | rfl | omega); (first | assumption | omega))
       | ((with_reducible apply G.hcall (f := 20)); rfl; rfl; exact Try.call20; ((apply play_oc (hn := hn) (hm := hm) (hc := hc)); (focus (repeat (first | assumption | exact Has.row (List.Mem.head _) | (apply Has.mine; assumption) | apply Has.tail | apply Has.oH | exact Has.nil)))); (rintro _ _ ⟨t, v, v1, v2, b, br, rfl, rfl, hst, hv, hv2⟩; (focus (repeat (first | exact StOk.nil | (refine StOk.keep ?_ ?_; (focus ((repeat (first | exact List.Mem.head _ | assumption | apply List.Mem.tail | apply mem_oH)); done))) | refine StOk.gone (by kernel_rfl) ?_)))); (rintro _ _ ⟨t, v, v1, v2, b, br, rfl, rfl, hst, hv, hv2⟩; have ho := hst.ok; have ho2 := mov_ok (p := p) (g := g) (s := s) ho; have hil := Nat.le_trans (ids_len (movS t p g s).l (movS t p g s).l.length) ho2.len; rcases mvs t p g s with ⟨u1, u2⟩ | ⟨u1, u2, u3, u4⟩ | ⟨u1, u2, u3, u4⟩))
       | ((with_reducible apply G.rcall (f := 17)); rfl; rfl; exact Try.call17; exact live_dc.rc; (focus (repeat (first | exact StOk.nil | (refine StOk.keep ?_ ?_; (focus ((repeat (first | exact List.Mem.head _ | assumption | apply List.Mem.tail | apply mem_oH)); done))) | refine StOk.gone (by kernel_rfl) ?_))))
       | ((with_reducible apply G.rcall (f := 16)); rfl; rfl; exact Try.call16; (first | ((apply state_rc (t := t) (v := v)); (focus ((repeat (first | exact List.Mem.head _ | assumption | apply List.Mem.tail | apply mem_oH)); done)); assumption; (focus (repeat (first | assumption | exact Has.row (List.Mem.head _) | (apply Has.mine; assumption) | apply Has.tail | apply Has.oH | exact Has.nil)))) | ((apply state_rc (t := (movS t p g s)) (v := v)); (focus ((repeat (first | exact List.Mem.head _ | assumption | apply List.Mem.tail | apply mem_oH)); done)); assumption; (focus (repeat (first | assumption | exact Has.row (List.Mem.head _) | (apply Has.mine; assumption) | apply Has.tail | apply Has.oH | exact Has.nil)))) | ((apply state_rc (t := t) (v := w1)); (focus ((repeat (first | exact List.Mem.head _ | assumption | apply List.Mem.tail | apply mem_oH)); done)); assumption; (focus (repeat (first | assumption | exact Has.row (List.Mem.head _) | (apply Has.mine; assumption) | apply Has.tail | apply Has.oH | exact Has.nil))))); (focus (repeat (first | exact StOk.nil | (refine StOk.keep ?_ ?_; (focus ((repeat (first | exact List.Mem.head _ | assumption | apply List.Mem.tail | apply mem_oH)); done))) | refine StOk.gone (by kernel_rfl) ?_))))
       | ((with_reducible apply G.hcall (f := 24)); rfl; rfl; exact Try.call24; ((apply fork_oc (t := t) (v := v)); (focus ((repeat (first | exact List.Mem.head _ | assumption | apply List.Mem.tail | apply mem_oH)); done)); assumption; (focus (repeat (first | assumption | exact Has.row (List.Mem.head _) | (apply Has.mine; assumption) | apply Has.tail | apply Has.oH | exact Has.nil))); exact ho.len); (rintro _ _ ⟨bf, w1, rfl, rfl, hw1⟩; (focus (repeat (first | exact StOk.nil | (refine StOk.keep ?_ ?_; (focus ((repeat (first | exact List.Mem.head _ | assumption | apply List.Mem.tail | apply mem_oH)); done))) | refine StOk.gone (by kernel_rfl) ?_)))); (rintro _ _ ⟨bf, w1, rfl, rfl, hw1⟩))
       | ((with_reducible apply G.gcall (f := 23)); rfl; rfl; exact Try.call23; ((apply mov_oc (t := t) (v := v) (ho := ho)); rotate_left; assumption); (focus (repeat (first | exact Pick.rest | ((with_reducible apply Pick.own); (focus (repeat (first | exact OIn.here | apply OIn.there | apply OIn.over)))) | ((with_reducible apply Pick.cons); (focus (repeat (first | assumption | exact Rem.here | apply Rem.there | apply Rem.oH))))))); (rintro _ _ ⟨rfl, rfl, hv'⟩; (focus (repeat (first | exact StOk.nil | (refine StOk.keep ?_ ?_; (focus ((repeat (first | exact List.Mem.head _ | assumption | apply List.Mem.tail | apply mem_oH)); done))) | refine StOk.gone (by kernel_rfl) ?_)))); (rintro _ _ ⟨rfl, rfl, hv'⟩))
       | ((with_reducible apply G.gcall (f := 21)); rfl; rfl; exact Try.call21; ((apply lives_oc (t := (movS t p g s)) (v := v) (ho := ho2)); rotate_left; assumption); (focus (repeat (first | exact Pick.rest | ((with_reducible apply Pick.own); (focus (repeat (first | exact OIn.here | apply OIn.there | apply OIn.over)))) | ((with_reducible apply Pick.cons); (focus (repeat (first | assumption | exact Rem.here | apply Rem.there | apply Rem.oH))))))); (rintro _ _ ⟨vo, rfl, rfl, hvo⟩; (focus (repeat (first | exact StOk.nil | (refine StOk.keep ?_ ?_; (focus ((repeat (first | exact List.Mem.head _ | assumption | apply List.Mem.tail | apply mem_oH)); done))) | refine StOk.gone (by kernel_rfl) ?_)))); (rintro _ _ ⟨vo, rfl, rfl, hvo⟩))
       | ((with_reducible apply G.dcall (f := 19)); rfl; rfl; exact Try.call19; exact rmay_dc _ _)
       | ((with_reducible apply G.nilck); rfl; rfl) | ((with_reducible apply G.extract); rfl; rfl; rfl) | ((with_reducible apply G.len); rfl; rfl; rfl) | ((with_reducible apply G.pick1); rfl; rfl; rfl) | ((with_reducible apply G.pick0); rfl; rfl; rfl) | ((with_reducible apply G.unw); rfl) | ((with_reducible apply G.unw0); rfl)
       | ((with_reducible apply G.boxa); rfl; rfl; intro b) | ((with_reducible apply G.box); rfl; rfl; intro b) | ((with_reducible apply G.alloc); rfl; rfl; rfl; intro b)
       | ((with_reducible apply G.store); rfl; rfl; rfl; rfl; rfl; rfl; (focus (repeat (first | assumption | exact Rem.here | apply Rem.there | apply Rem.oH))); (exact Nat.le_of_ble_eq_true rfl); (focus (repeat (first | exact StOk.nil | (refine StOk.keep ?_ ?_; (focus ((repeat (first | exact List.Mem.head _ | assumption | apply List.Mem.tail | apply mem_oH)); done))) | refine StOk.gone (by kernel_rfl) ?_))); rfl)
       | ((with_reducible apply G.build); rfl; rfl; rfl) | ((with_reducible apply G.eqs); rfl; rfl; rfl; rfl; (kernel_rfl); (kernel_rfl)) | ((with_reducible apply G.nes); rfl; rfl; rfl; rfl; (kernel_rfl); (kernel_rfl))
       | ((with_reducible apply G.num); rfl; rfl; rfl; rfl; rfl; (first | ((with_reducible apply shl8); omega; omega) | ((with_reducible apply shl16); omega; omega) | ((with_reducible apply or8); omega; omega; omega; omega) | ((with_reducible apply or16); omega; omega; omega; omega) | ((with_reducible apply or24); omega; omega; omega; omega; omega; omega) | ((with_reducible apply i64_in); omega; omega) | ((with_reducible apply wrap8_in); omega; omega) | ((with_reducible apply u64_in); omega; omega) | with_reducible exact shr16 _ | with_reducible exact shr8 _ | with_reducible exact wrap8_mod _ | with_reducible exact shr32u _ | ((with_reducible apply and32u); omega; omega) | with_reducible exact wrap64_mod _))
       | ((with_reducible apply G.min2); rfl; rfl; rfl; (first | (apply if_pos; omega) | (apply if_neg; omega) | rfl)) | ((with_reducible apply G.max2); rfl; rfl; rfl; (first | (apply if_pos; omega) | (apply if_neg; omega) | rfl))
       | ((with_reducible apply G.pure); rfl; rfl; rfl; rfl; rfl)
       | ((with_reducible apply G.known true); rfl; rfl; rfl; (focus (first | exact u1 | exact u2 | (rw [u1]; rfl) | (rw [u2]; rfl) | with_reducible rfl | ((with_reducible apply decide_eq_true); omega) | ((with_reducible apply decide_eq_false); omega) | ((with_reducible apply beq_iff_eq.2); omega) | ((with_reducible apply beq_eq_false_iff_ne.2); omega) | ((with_reducible apply bne_iff_ne.2); omega) | ((with_reducible apply bne_eq_false_iff_eq.2); omega) | ((with_reducible apply bnot_t); omega) | ((with_reducible apply bnot_f); omega) | ((with_reducible apply dnot_t); omega) | ((with_reducible apply dnot_f); omega) | (simp; done) | (simp; omega)))) | ((with_reducible apply G.known false); rfl; rfl; rfl; (focus (first | exact u1 | exact u2 | (rw [u1]; rfl) | (rw [u2]; rfl) | with_reducible rfl | ((with_reducible apply decide_eq_true); omega) | ((with_reducible apply decide_eq_false); omega) | ((with_reducible apply beq_iff_eq.2); omega) | ((with_reducible apply beq_eq_false_iff_ne.2); omega) | ((with_reducible apply bne_iff_ne.2); omega) | ((with_reducible apply bne_eq_false_iff_eq.2); omega) | ((with_reducible apply bnot_t); omega) | ((with_reducible apply bnot_f); omega) | ((with_reducible apply dnot_t); omega) | ((with_reducible apply dnot_f); omega) | (simp; done) | (simp; omega))))
       | ((with_reducible apply G.split); rfl; rfl; rfl; all_goals (intro h; first | replace h := beq_t h | replace h := beq_f h | replace h := bne_t h | replace h := bne_f h | replace h := of_decide_eq_true h | replace h := of_decide_eq_false h | skip)))
    | with_reducible apply RG.done | with_reducible apply Q.tn | with_reducible apply Q.tr | with_reducible apply Q.te | with_reducible apply Q.bn | with_reducible apply Q.br | with_reducible apply Q.be | ((with_reducible apply Q.bx); decide) | with_reducible apply Q.tp | with_reducible apply Q.bp
    | with_reducible apply SW.seq | with_reducible apply SW.block | with_reducible apply SW.ret | with_reducible apply SW.skip | with_reducible apply SW.exit
    | ((with_reducible apply SW.cond1); rfl; (focus (first | exact u1 | exact u2 | (rw [u1]; rfl) | (rw [u2]; rfl) | with_reducible rfl | ((with_reducible apply decide_eq_true); omega) | ((with_reducible apply decide_eq_false); omega) | ((with_reducible apply beq_iff_eq.2); omega) | ((with_reducible apply beq_eq_false_iff_ne.2); omega) | ((with_reducible apply bne_iff_ne.2); omega) | ((with_reducible apply bne_eq_false_iff_eq.2); omega) | ((with_reducible apply bnot_t); omega) | ((with_reducible apply bnot_f); omega) | ((with_reducible apply dnot_t); omega) | ((with_reducible apply dnot_f); omega) | (simp; done) | (simp; omega)))) | ((with_reducible apply SW.cond0); rfl; (focus (first | exact u1 | exact u2 | (rw [u1]; rfl) | (rw [u2]; rfl) | with_reducible rfl | ((with_reducible apply decide_eq_true); omega) | ((with_reducible apply decide_eq_false); omega) | ((with_reducible apply beq_iff_eq.2); omega) | ((with_reducible apply beq_eq_false_iff_ne.2); omega) | ((with_reducible apply bne_iff_ne.2); omega) | ((with_reducible apply bne_eq_false_iff_eq.2); omega) | ((with_reducible apply bnot_t); omega) | ((with_reducible apply bnot_f); omega) | ((with_reducible apply dnot_t); omega) | ((with_reducible apply dnot_f); omega) | (simp; done) | (simp; omega))))
    | ((with_reducible apply SW.cond); rfl; all_goals (intro h; first | replace h := beq_t h | replace h := beq_f h | replace h := bne_t h | replace h := bne_f h | replace h := of_decide_eq_true h | replace h := of_decide_eq_false h | skip))
    | ((with_reducible apply SW.region0); kernel_rfl; rfl)
    | ((with_reducible apply SW.region1 (id := 14) [0, 1, 2, 3, 4, 5, 6, 7, 8, 9, 10, 11]); rfl; kernel_rfl))
  all_goals ((apply Q.rret (.cons (by first | exact .tmp rfl | exact .cell rfl (by repeat (first | exact List.Mem.head _ | apply List.Mem.tail)) rfl) .nil)); ((focus (repeat (first | exact Rems.all | exact Rems.nil | (apply Rems.own; (focus (repeat (first | exact OIn.here | apply OIn.there | apply OIn.over)))) | (apply Rems.cons; (focus (repeat (first | assumption | exact Rem.here | apply Rem.there | apply Rem.oH)))) | apply Rems.skip | apply Rems.oskip)))); (first | rfl | (simp [tupV]; done) | (simp [tupV, *]; done) | (simp [tupV]; omega)))

theorem GtabMoves_own : ownKnob Try.prog.godebug = none := by kernel_rfl
theorem GtabMoves_laid : laidOutB Try.prog = true := by kernel_rfl
set_option maxRecDepth 100000 in
theorem GtabMoves_lifted (os : Os) (started : os.Started) (H : Type) (enc : TypeId × Value → H) :
    ReturnsInHanded {} Try.checked os 8 .any (Rows.gtabMovesSpec.pre6 enc Try.prog Try.f8 Rows.gtabMovesRow.domain false) (Rows.gtabMovesSpec.post enc Try.prog Try.f8 false true false false) := by
  refine returnsInHanded_of_change (C := Try.checked) GtabMoves_own started (by kernel_rfl) Try.func8
    (ChangeSpec.witness6 (enc := enc) (C := Try.checked) false ⟨#[], #[.int .u8 0, .slice none 0 0, .agg #[.int .i64 0, .int .i64 0, .int .u32 0, .int .i64 0]], []⟩ 8 (by kernel_rfl) (by kernel_rfl) (by kernel_rfl) (by kernel_rfl)) ?_
  intro W base args ds gs before hval0 hW _ _
  have hval : ∀ (j : Nat) t v, Try.f8.params[j]? = some t → args[j]? = some v → Value.okWide Try.prog W .any base t v := hval0
  have hW' := hW
  obtain ⟨p, q, hA0, hV, rfl, _, _⟩ := hW
  obtain ⟨rfl, rfl⟩ := trodVars_none hV
  have hA : DataW.TrodAll enc Try.prog W 0 (fun _ => true) true Try.f8.params.toList args.toList ds p := hA0
  rw [Try.params8] at hA hval
  obtain ⟨v0, v1, v2, d0, d1, d2, p0, p1, p2, rfl, rfl, rfl, h0, h1, h2⟩ := trodAll_three hA

  obtain ⟨x0, rfl, _, _, w0⟩ := open_int Try.underlying5 (hval 0 5 _ rfl rfl) h0
  obtain ⟨a1, n1, c1, Hc1, els1, rfl, q11, q12, q13, q14, q15, q16, q17⟩ := open_slice Try.underlying22 4 (ks := [.i .i64, .i .i64, .i .u32, .i .i64]) (by kernel_rfl) (by kernel_rfl) (by decide) (hval 1 22 _ rfl rfl) h1
  obtain ⟨L1, rfl⟩ := deeds_of q14
  have s1 : Has Hc1 a1 (cellsD L1) := q15
  rw [List.length_map] at q11
  obtain ⟨l2, rfl, m2⟩ := open_agg 4 (ks := [.i .i64, .i .i64, .i .u32, .i .i64]) (by kernel_rfl) (m := 4) (by kernel_rfl) (hval 2 31 _ rfl rfl) h2
  obtain ⟨x2k, x2p, x2g, x2s, rfl⟩ := deed_cells m2
  refine (RC.run (GtabMoves_rc Hc1 x0 (okI_u8 w0) a1 n1 c1 L1 q12 q11 s1 x2k x2p x2g x2s) q16).mono fun e W' ⟨he, hb⟩ => ?_
  subst he
  exact ⟨_, rfl, law_post GtabMoves_laid (by decide +kernel) rfl Try.underlying4 rfl (fun ds h => by match ds, h with | [d0, d1, d2], _ => rfl) rfl hW' hb⟩

theorem GtabMoves_holds : Rows.GtabMovesSaid :=
  OpenClaim.holds_of_wide 8 Try.f8 rfl rfl rfl rfl rfl rfl rfl ⟨rfl, rfl, rfl, rfl, rfl⟩ rfl rfl rfl rfl rfl (by kernel_rfl) Try.func8 (by kernel_rfl)
    (of_decide_eq_true (by kernel_rfl)) (by unfold Func.isWrapper; first | (rw [if_pos (by decide +kernel)]; kernel_rfl) | (rw [if_neg (by decide +kernel)]; exact ⟨rfl, rfl⟩))
    (fun os started H enc _ => GtabMoves_lifted os started H enc)

end Go.Proofs.Ytbfncpfmeankpaa
