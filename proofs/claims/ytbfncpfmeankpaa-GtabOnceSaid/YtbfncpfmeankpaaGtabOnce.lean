/- GtabOnce: the law holds of every input. -/
import Derived.Test.YtbfncpfmeankpaaKB
namespace Go.Proofs.Ytbfncpfmeankpaa
open Go Go.RowKit Bw Go.ChangeShapes Go.WideShapes Go.ChangeAt
set_option linter.unusedSimpArgs false
set_option linter.unusedVariables false
attribute [local irreducible] OC RC DC XC


theorem deed_cells {l : List Value} (h : MatchK [.i .i64, .i .i64, .i .u32, .i .i64] l) : ∃ k p g s, l = [.int .i64 k, .int .i64 p, .int .u32 g, .int .i64 s] := by
  have h5 := h.length
  match l, h5, h with
  | [v1, v2, v3, v4], _, h =>
    obtain ⟨⟨a, rfl, ha⟩, ⟨i, rfl, hi⟩, ⟨b, rfl, hb⟩, ⟨p, rfl, hp⟩, _⟩ := h
    exact ⟨a, i, b, p, rfl⟩
theorem id_cells {l : List Value} (h : MatchK [.i .i64, .i .u32] l) : ∃ p g, l = [.int .i64 p, .int .u32 g] := by
  have h5 := h.length
  match l, h5, h with
  | [v1, v2], _, h =>
    obtain ⟨⟨a, rfl, ha⟩, ⟨i, rfl, hi⟩, _⟩ := h
    exact ⟨a, i, rfl⟩
theorem deeds_of : ∀ {els : List (List Value)}, (∀ x ∈ els, MatchK [.i .i64, .i .i64, .i .u32, .i .i64] x) → ∃ l : List Deed, els = l.map deedC
  | [], _ => ⟨[], rfl⟩
  | x :: els, h => by
    obtain ⟨l, hl⟩ := deeds_of (els := els) fun y hy => h y (List.mem_cons_of_mem _ hy)
    obtain ⟨a, i, b, p, rfl⟩ := deed_cells (h x (List.mem_cons_self ..))
    exact ⟨⟨a, i, b, p⟩ :: l, by rw [hl]; rfl⟩

def AllOk (t : Tb) (al : List (Int × Int)) : Prop := ∀ q ∈ al, ∃ (j : Nat) (x : Pl), q.1 = j ∧ t.l[j]? = some x ∧ q.2 ≤ x.gen
theorem once_rel {t : Tb} {al : List (Int × Int)} (h : AllOk t al) (p g : Int) : AllOk (relS t p g) al := by
  cases hf : findP t.l p g with
  | none => rw [(rel_out hf).2]; exact h
  | some y =>
    obtain ⟨j, x⟩ := y
    obtain ⟨_, _, hx, _, _⟩ := findP_some hf
    rw [(rel_in hf).2]
    intro q hq
    obtain ⟨i, z, e1, e2, e3⟩ := h q hq
    by_cases hij : i = j
    · subst hij
      rw [hx] at e2; obtain rfl := Option.some.inj e2
      exact ⟨i, _, e1, set_get hx, e3⟩
    · exact ⟨i, z, e1, by show (t.l.set j _)[i]? = _; rw [List.getElem?_set, if_neg (fun h => hij h.symm)]; exact e2, e3⟩
theorem once_alc {t : Tb} {N c : Int} {al : List (Int × Int)} (hst : St t N c) (hc : c < 1000) (h : AllOk t al) :
    (alcE t = 4 ∧ alcS t = t ∧ t.many = N) ∨ (∃ P G t2, alcP t = P ∧ alcG t = G ∧ alcE t = 0 ∧ alcS t = t2 ∧ St t2 N (c + 1) ∧ staV t2.l P G = 1 ∧ staB t2.l P G = true ∧ (∀ q ∈ al, ¬ (q.1 = P ∧ q.2 = G)) ∧ AllOk t2 (al ++ [(P, G)])) := by
  have hs2 := st_alc hst (by omega)
  cases hf : free t.l with
  | none =>
    obtain ⟨_, _, _, e3, e4⟩ := alc_out hf
    refine .inl ⟨e3, e4, ?_⟩
    have h1 := hst.ok.many
    have h2 : t.l.countP live1 = t.l.length := by
      rw [List.countP_eq_length]; intro x hx
      have := free_none hf x hx
      simp [live1, this]
    have h3 := hst.len
    omega
  | some j =>
    obtain ⟨x, hx, h0, _⟩ := free_some hf
    obtain ⟨_, e1, e2, e3, e4⟩ := alc_in hf hx
    have hg := hst.gen x (List.mem_of_getElem? hx)
    have hg1 := gen1_in hg.1 (by omega)
    have hx2 := set_get (y := ⟨1, gen1 x.gen⟩) hx
    have hfp := findP_in hx2 (by decide : (1 : Int) ≠ 0)
    dsimp only at hfp
    refine .inr ⟨_, _, _, e1, e2, e3, e4, by rw [← e4]; exact hs2, ?_, ?_, ?_, ?_⟩
    · unfold staV; dsimp only; rw [hfp]
    · unfold staB; dsimp only; rw [hfp]
    · rintro q hq ⟨q1, q2⟩
      obtain ⟨i, z, a1, a2, a3⟩ := h q hq
      obtain rfl : i = j := by omega
      rw [hx] at a2; obtain rfl := Option.some.inj a2
      omega
    · intro q hq
      rcases List.mem_append.1 hq with hq | hq
      · obtain ⟨i, z, a1, a2, a3⟩ := h q hq
        by_cases hij : i = j
        · subst hij
          rw [hx] at a2; obtain rfl := Option.some.inj a2
          exact ⟨i, _, a1, hx2, by dsimp only; omega⟩
        · exact ⟨i, z, a1, by show (t.l.set j _)[i]? = _; rw [List.getElem?_set, if_neg (fun h => hij h.symm)]; exact a2, a3⟩
      · rw [List.mem_singleton.1 hq]
        exact ⟨j, _, rfl, hx2, Int.le_refl _⟩
theorem id_ne {p g P G : Int} (h : ¬ (p = P ∧ g = G)) : p ≠ P ∨ g ≠ G := by
  by_cases h1 : p = P
  · exact .inr fun h2 => h ⟨h1, h2⟩
  · exact .inl h1

set_option maxHeartbeats 4000000 in
set_option maxRecDepth 4000 in
theorem GtabOnce_rc (H : Hp) (n : Int) (hn : 0 ≤ n ∧ n < 256) (a : Option Addr) (m c : Nat) (l : List Deed) (hm : m ≤ c) (hc : l.length = c) (hs : Has H a (cellsD l)) : RC Try.prog 3 #[.int .u8 n, .slice a m c] H (.bool true) := by
  obtain ⟨k, hk⟩ : ∃ k, n % 6 = k := ⟨_, rfl⟩
  have hk0 : 0 ≤ k := by omega
  have hk1 : k < 6 := by omega
  have hnw := st_new (N := (k + 1).toNat) (by omega)
  rw [show (((k + 1).toNat : Nat) : Int) = k + 1 by omega] at hnw
  all_goals (try unfold RC)
  all_goals (try unfold DC)
  all_goals refine OC.of_sw Try.func3 rfl Try.ntmps3 (Nat.le_of_ble_eq_true rfl) fun C => ?_
  repeat' (first
    | ((with_reducible apply SW.bloopI (id := 0) (α := (Nat × Tb × List (Int × Int) × Own)) (Inv := (fun (s' : Nat × Tb × List (Int × Int) × Own) => match s' with | (j, t, al, vo) => j ≤ 60 ∧ St t (k + 1) (j : Int) ∧ OOk 2 v t.l.length (cellsP t.l) ∧ OOk 2 vo al.length (cellsI al) ∧ AllOk t al ∧ al.length ≤ j)) (I := (fun (s' : Nat × Tb × List (Int × Int) × Own) => match s' with | (j, t, al, vo) => [(0, .int .u8 n), (1, .slice a m c), (5, .pointer (some ⟨b, 0, none⟩)), (6, .slice (oA vo) al.length (oC vo)), (7, .int .i64 (j : Nat))])) (J := (fun (s' : Nat × Tb × List (Int × Int) × Own) => match s' with | (j, t, al, vo) => tbH b t v (oH 28 vo (cellsI al) H))) (μ := (fun s' => 60 - s'.1)) (x0 := (0, ⟨List.replicate (k + 1).toNat ⟨0, 0⟩, 0⟩, [], none))); (exact ⟨by omega, hnw, hv0, OOk.nil, (fun _ h => nomatch h), Nat.le_refl _⟩); (apply Exists.intro; apply And.intro; (focus (repeat (first | exact trivial | refine ⟨rfl, ?_⟩))); (focus (repeat (first | exact Rems.all | exact Rems.nil | (apply Rems.own; (focus (repeat (first | exact OIn.here | apply OIn.there | apply OIn.over)))) | (apply Rems.cons; (focus (repeat (first | assumption | exact Rem.here | apply Rem.there | apply Rem.oH)))) | apply Rems.skip | apply Rems.oskip)))); (rintro ⟨j, t, al, vo⟩ ⟨hj, hst, hv, hvo, hall, hal⟩; (try dsimp only at hj hst hv hvo hall hal); have hc1000 : (j : Int) < 1000 := (by omega); by_cases hlt : j < m ∧ j < 60; (case' pos => (obtain ⟨hlt1, hlt2⟩ := hlt; obtain ⟨x, hx⟩ : ∃ x, l[j]? = some x := ⟨_, List.getElem?_eq_getElem (by omega)⟩; have hne := d_ne hx; have ha := hs.isa hne; have y1 := d_kind hx; have hst3 := st_mono (c' := (j : Int) + 1) hst (by omega); by_cases hk0 : x.kind = 0; (case' pos => (have hA := fun (F1 : Hp) h0 => alc_oc t v b F1 hst.ok h0; rcases once_alc hst hc1000 hall with ⟨u1, u2, u3⟩ | ⟨pp, gg, t2, w1, w2, u1, u2, hst5, u5, u6, u7, u8⟩; (case' inl => rw [u1, u2] at hA); (case' inr => rw [w1, w2, u1, u2] at hA))); (case' neg => (by_cases hk1 : x.kind = 1 ∧ 0 < al.length; (case' pos => (obtain ⟨hk2, hk3⟩ := hk1; obtain ⟨q, hq⟩ : ∃ q, al[al.length - 1]? = some q := ⟨_, List.getElem?_eq_getElem (by omega)⟩; have hnei := i_ne hq; have hso := Has.mine (e := 28) (H := H) hvo; have hia := hso.isa hnei; have xn := i_all hq; have hst4 := st_mono (c' := (j : Int) + 1) (st_rel (p := q.1) (g := q.2) hst) (by omega); have hall2 := once_rel hall q.1 q.2))))))))
    | ((with_reducible apply SW.bloopI (id := 2) (α := Nat) (Inv := (fun z => z ≤ al.length)) (I := (fun (z : Nat) => [(0, .int .u8 n), (1, .slice a m c), (5, .pointer (some ⟨b, 0, none⟩)), (6, .slice (oA vo) al.length (oC vo)), (7, .int .i64 (j : Nat)), (8, .pointer (some ⟨ci, 0, none⟩)), (12, .int .i64 (z : Nat))])) (J := (fun (_ : Nat) => (ci, .row 28 [.int .i64 pp, .int .u32 gg] 0) :: tbH b t2 v (oH 28 vo (cellsI al) H))) (μ := (fun z => al.length - z)) (x0 := 0)); (exact Nat.zero_le _); (apply Exists.intro; apply And.intro; (focus (repeat (first | exact trivial | refine ⟨rfl, ?_⟩))); (focus (repeat (first | exact Rems.all | exact Rems.nil | (apply Rems.own; (focus (repeat (first | exact OIn.here | apply OIn.there | apply OIn.over)))) | (apply Rems.cons; (focus (repeat (first | assumption | exact Rem.here | apply Rem.there | apply Rem.oH)))) | apply Rems.skip | apply Rems.oskip)))); (rintro z hz; (try dsimp only at hz); rcases Nat.lt_or_ge z al.length with hzl | hzg; (case' inl => (obtain ⟨q, hq⟩ : ∃ q, al[z]? = some q := ⟨_, List.getElem?_eq_getElem hzl⟩; obtain ⟨qp, qg⟩ := q; have hnei := i_ne hq; have hso := Has.mine (e := 28) (H := H) hvo; have hia := hso.isa hnei; have xn := i_all hq; dsimp only at xn; rcases id_ne (u7 _ (List.mem_of_getElem? hq)) with hidn | hidn))))
    | ((refine Exists.intro (z + 1) ?_); (apply Exists.intro); (refine ⟨?_, ?_, ?_, ?_⟩); (omega); (focus (repeat (first | exact trivial | refine ⟨rfl, ?_⟩))); (focus (repeat (first | exact Rems.all | exact Rems.nil | (apply Rems.own; (focus (repeat (first | exact OIn.here | apply OIn.there | apply OIn.over)))) | (apply Rems.cons; (focus (repeat (first | assumption | exact Rem.here | apply Rem.there | apply Rem.oH)))) | apply Rems.skip | apply Rems.oskip))); (omega))
    | ((refine Exists.intro (j + 1, t, al, vo) ?_); (apply Exists.intro); (refine ⟨?_, ?_, ?_, ?_⟩); (exact ⟨by omega, hst3, by assumption, hvo, hall, by omega⟩); (focus (repeat (first | exact trivial | refine ⟨rfl, ?_⟩))); (focus (repeat (first | exact Rems.all | exact Rems.nil | (apply Rems.own; (focus (repeat (first | exact OIn.here | apply OIn.there | apply OIn.over)))) | (apply Rems.cons; (focus (repeat (first | assumption | exact Rem.here | apply Rem.there | apply Rem.oH)))) | apply Rems.skip | apply Rems.oskip))); ((try dsimp only); omega))
    | ((refine Exists.intro (j + 1, relS t q.1 q.2, al, vo) ?_); (apply Exists.intro); (refine ⟨?_, ?_, ?_, ?_⟩); (exact ⟨by omega, hst4, by assumption, hvo, hall2, by omega⟩); (focus (repeat (first | exact trivial | refine ⟨rfl, ?_⟩))); (focus (repeat (first | exact Rems.all | exact Rems.nil | (apply Rems.own; (focus (repeat (first | exact OIn.here | apply OIn.there | apply OIn.over)))) | (apply Rems.cons; (focus (repeat (first | assumption | exact Rem.here | apply Rem.there | apply Rem.oH)))) | apply Rems.skip | apply Rems.oskip))); ((try dsimp only); omega))
    | ((refine Exists.intro (j + 1, t2, al ++ [(pp, gg)], v') ?_); (apply Exists.intro); (refine ⟨?_, ?_, ?_, ?_⟩); (exact ⟨by omega, hst5, by assumption, by assumption, u8, by simp; omega⟩); (focus (repeat (first | exact trivial | refine ⟨rfl, ?_⟩))); (focus (repeat (first | exact Rems.all | exact Rems.nil | (apply Rems.own; (focus (repeat (first | exact OIn.here | apply OIn.there | apply OIn.over)))) | (apply Rems.cons; (focus (repeat (first | assumption | exact Rem.here | apply Rem.there | apply Rem.oH)))) | apply Rems.skip | apply Rems.oskip))); ((try dsimp only); omega))
    | ((with_reducible apply G.at); rfl; first
       | ((with_reducible apply G.move); rfl; rfl) | ((with_reducible apply G.assign); rfl; rfl)
       | ((with_reducible apply G.load0); rfl; rfl; (focus (repeat (first | exact List.Mem.head _ | assumption | apply List.Mem.tail | apply mem_oH))); rfl) | ((with_reducible apply G.load1); rfl; rfl; (focus (repeat (first | exact List.Mem.head _ | assumption | apply List.Mem.tail | apply mem_oH))); rfl)
       | ((with_reducible apply G.loadS0); rfl; rfl; (focus (repeat (first | assumption | exact Has.row (List.Mem.head _) | (apply Has.mine; assumption) | apply Has.tail | apply Has.oH | exact Has.nil))); assumption; (first | assumption | rfl)) | ((with_reducible apply G.loadS1); rfl; rfl; (first | assumption | exact Has.row (List.Mem.head _)); (focus (intro p hp; repeat (first | assumption | apply List.Mem.tail | apply mem_oH))); assumption; (first | assumption | rfl); intro _ _ _)
       | ((with_reducible apply G.faddrh (k := 0)); rfl; rfl; rfl) | ((with_reducible apply G.faddrh (k := 1)); rfl; rfl; rfl) | ((with_reducible apply G.faddrh (k := 2)); rfl; rfl; rfl) | ((with_reducible apply G.faddrh (k := 3)); rfl; rfl; rfl) | ((with_reducible apply G.faddrh (k := 4)); rfl; rfl; rfl) | ((with_reducible apply G.faddrh (k := 5)); rfl; rfl; rfl) | ((with_reducible apply G.faddrh (k := 6)); rfl; rfl; rfl) | ((with_reducible apply G.faddrh (k := 7)); rfl; rfl; rfl)
       | ((with_reducible apply G.faddrS (d := 0)); rfl; rfl; rfl; assumption) | ((with_reducible apply G.faddrS (d := 1)); rfl; rfl; rfl; assumption) | ((with_reducible apply G.faddrS (d := 2)); rfl; rfl; rfl; assumption) | ((with_reducible apply G.faddrS (d := 3)); rfl; rfl; rfl; assumption) | ((with_reducible apply G.faddrS (d := 4)); rfl; rfl; rfl; assumption) | ((with_reducible apply G.faddrS (d := 5)); rfl; rfl; rfl; assumption) | ((with_reducible apply G.faddrS (d := 6)); rfl; rfl; rfl; assumption) | ((with_reducible apply G.faddrS (d := 7)); rfl; rfl; rfl; assumption)
       | ((with_reducible apply G.remc); rfl; rfl; rfl; omega; omega; exact hk)
       | ((with_reducible apply G.iaddrS (size := 4) (j := j)); rfl; rfl; rfl; rfl; assumption; (first | rfl | omega); (first | assumption | omega))
       | ((with_reducible apply G.iaddrS (size := 2) (j := z)); rfl; rfl; rfl; rfl; assumption; (first | rfl | omega); (first | assumption | omega))
       | ((with_reducible apply G.iaddrS (size := 2) (j := (al.length - 1))); rfl; rfl; rfl; rfl; assumption; (first | rfl | omega); (first | assumption | omega))
       | ((with_reducible apply G.alloc (e := 28)); rfl; rfl; rfl; intro ci)
       | ((with_reducible apply G.bslice); rfl; rfl; intro bq)
       | ((with_reducible apply G.appendO (size := 2) (bytes := 16) (cs' := cellsI (al ++ [(pp, gg)])) (n' := (al ++ [(pp, gg)]).length)); rfl; rfl; rfl; rfl; rfl; (focus (repeat (first | exact OIn.here | apply OIn.there | apply OIn.over))); assumption; (focus ((focus (repeat (first | assumption | exact Has.row (List.Mem.head _) | (apply Has.mine; assumption) | apply Has.tail | apply Has.oH | exact Has.nil))))); (focus (rfl)); (focus (rfl)); (focus (first | rfl | omega | (simp; done))); (focus (exact cellsI_app al (pp, gg))); (focus (first | omega | (simp; omega))); (focus (first | omega | (simp; omega))); (focus (repeat (first | exact StOk.nil | (refine StOk.keep ?_ ?_; (focus ((repeat (first | exact List.Mem.head _ | assumption | apply List.Mem.tail | apply mem_oH)); done))) | refine StOk.gone (by kernel_rfl) ?_))); (intro v' hv'))
       | ((with_reducible apply G.hcall (f := 12)); rfl; rfl; exact Try.call12; (exact new_k _ _ (by omega) (by omega)); (rintro _ _ ⟨b, v, rfl, rfl, hv0⟩; (focus (repeat (first | exact StOk.nil | (refine StOk.keep ?_ ?_; (focus ((repeat (first | exact List.Mem.head _ | assumption | apply List.Mem.tail | apply mem_oH)); done))) | refine StOk.gone (by kernel_rfl) ?_)))); (rintro _ _ ⟨b, v, rfl, rfl, hv0⟩))
       | ((with_reducible apply G.gcall (f := 14)); rfl; rfl; exact Try.call14; ((apply hA); rotate_left; assumption); (focus (repeat (first | exact Pick.rest | ((with_reducible apply Pick.own); (focus (repeat (first | exact OIn.here | apply OIn.there | apply OIn.over)))) | ((with_reducible apply Pick.cons); (focus (repeat (first | assumption | exact Rem.here | apply Rem.there | apply Rem.oH))))))); (rintro _ _ ⟨rfl, rfl, hw1⟩; (focus (repeat (first | exact StOk.nil | (refine StOk.keep ?_ ?_; (focus ((repeat (first | exact List.Mem.head _ | assumption | apply List.Mem.tail | apply mem_oH)); done))) | refine StOk.gone (by kernel_rfl) ?_)))); (rintro _ _ ⟨rfl, rfl, hw1⟩))
       | ((with_reducible apply G.gcall (f := 13)); rfl; rfl; exact Try.call13; ((apply rel_oc (t := t) (v := v) (ho := hst.ok)); rotate_left; assumption); (focus (repeat (first | exact Pick.rest | ((with_reducible apply Pick.own); (focus (repeat (first | exact OIn.here | apply OIn.there | apply OIn.over)))) | ((with_reducible apply Pick.cons); (focus (repeat (first | assumption | exact Rem.here | apply Rem.there | apply Rem.oH))))))); (rintro _ _ ⟨rfl, rfl, hw1⟩; (focus (repeat (first | exact StOk.nil | (refine StOk.keep ?_ ?_; (focus ((repeat (first | exact List.Mem.head _ | assumption | apply List.Mem.tail | apply mem_oH)); done))) | refine StOk.gone (by kernel_rfl) ?_)))); (rintro _ _ ⟨rfl, rfl, hw1⟩))
       | ((with_reducible apply G.rcall (f := 16)); rfl; rfl; exact Try.call16; ((apply state_rc (t := t2) (v := v)); (focus ((repeat (first | exact List.Mem.head _ | assumption | apply List.Mem.tail | apply mem_oH)); done)); assumption; (focus (repeat (first | assumption | exact Has.row (List.Mem.head _) | (apply Has.mine; assumption) | apply Has.tail | apply Has.oH | exact Has.nil)))); (focus (repeat (first | exact StOk.nil | (refine StOk.keep ?_ ?_; (focus ((repeat (first | exact List.Mem.head _ | assumption | apply List.Mem.tail | apply mem_oH)); done))) | refine StOk.gone (by kernel_rfl) ?_))))
       | ((with_reducible apply G.rcall (f := 15)); rfl; rfl; exact Try.call15; ((apply len_rc (t := t) (v := v)); (focus ((repeat (first | exact List.Mem.head _ | assumption | apply List.Mem.tail | apply mem_oH)); done))); (focus (repeat (first | exact StOk.nil | (refine StOk.keep ?_ ?_; (focus ((repeat (first | exact List.Mem.head _ | assumption | apply List.Mem.tail | apply mem_oH)); done))) | refine StOk.gone (by kernel_rfl) ?_))))
       | ((with_reducible apply G.rcall (f := 17)); rfl; rfl; exact Try.call17; exact live_dc.rc; (focus (repeat (first | exact StOk.nil | (refine StOk.keep ?_ ?_; (focus ((repeat (first | exact List.Mem.head _ | assumption | apply List.Mem.tail | apply mem_oH)); done))) | refine StOk.gone (by kernel_rfl) ?_))))
       | ((with_reducible apply G.nilck); rfl; rfl) | ((with_reducible apply G.extract); rfl; rfl; rfl) | ((with_reducible apply G.len); rfl; rfl; rfl) | ((with_reducible apply G.pick1); rfl; rfl; rfl) | ((with_reducible apply G.pick0); rfl; rfl; rfl) | ((with_reducible apply G.unw); rfl) | ((with_reducible apply G.unw0); rfl)
       | ((with_reducible apply G.boxa); rfl; rfl; intro b) | ((with_reducible apply G.box); rfl; rfl; intro b) | ((with_reducible apply G.alloc); rfl; rfl; rfl; intro b)
       | ((with_reducible apply G.store); rfl; rfl; rfl; rfl; rfl; rfl; (focus (repeat (first | assumption | exact Rem.here | apply Rem.there | apply Rem.oH))); (exact Nat.le_of_ble_eq_true rfl); (focus (repeat (first | exact StOk.nil | (refine StOk.keep ?_ ?_; (focus ((repeat (first | exact List.Mem.head _ | assumption | apply List.Mem.tail | apply mem_oH)); done))) | refine StOk.gone (by kernel_rfl) ?_))); rfl)
       | ((with_reducible apply G.build); rfl; rfl; rfl) | ((with_reducible apply G.eqs); rfl; rfl; rfl; rfl; (kernel_rfl); (kernel_rfl)) | ((with_reducible apply G.nes); rfl; rfl; rfl; rfl; (kernel_rfl); (kernel_rfl))
       | ((with_reducible apply G.num); rfl; rfl; rfl; rfl; rfl; (first | ((with_reducible apply shl8); omega; omega) | ((with_reducible apply shl16); omega; omega) | ((with_reducible apply or8); omega; omega; omega; omega) | ((with_reducible apply or16); omega; omega; omega; omega) | ((with_reducible apply or24); omega; omega; omega; omega; omega; omega) | ((with_reducible apply i64_in); omega; omega) | ((with_reducible apply wrap8_in); omega; omega) | ((with_reducible apply u64_in); omega; omega) | with_reducible exact shr16 _ | with_reducible exact shr8 _ | with_reducible exact wrap8_mod _ | with_reducible exact shr32u _ | ((with_reducible apply and32u); omega; omega) | with_reducible exact wrap64_mod _))
       | ((with_reducible apply G.min2); rfl; rfl; rfl; (first | (apply if_pos; omega) | (apply if_neg; omega) | rfl)) | ((with_reducible apply G.max2); rfl; rfl; rfl; (first | (apply if_pos; omega) | (apply if_neg; omega) | rfl))
       | ((with_reducible apply G.pure); rfl; rfl; rfl; rfl; rfl)
       | ((with_reducible apply G.known true); rfl; rfl; rfl; (focus (first | with_reducible rfl | ((with_reducible apply decide_eq_true); omega) | ((with_reducible apply decide_eq_false); omega) | ((with_reducible apply beq_iff_eq.2); omega) | ((with_reducible apply beq_eq_false_iff_ne.2); omega) | ((with_reducible apply bne_iff_ne.2); omega) | ((with_reducible apply bne_eq_false_iff_eq.2); omega) | ((with_reducible apply bnot_t); omega) | ((with_reducible apply bnot_f); omega) | ((with_reducible apply dnot_t); omega) | ((with_reducible apply dnot_f); omega) | (simp; done) | (simp [hidn]; done) | (simp; omega)))) | ((with_reducible apply G.known false); rfl; rfl; rfl; (focus (first | with_reducible rfl | ((with_reducible apply decide_eq_true); omega) | ((with_reducible apply decide_eq_false); omega) | ((with_reducible apply beq_iff_eq.2); omega) | ((with_reducible apply beq_eq_false_iff_ne.2); omega) | ((with_reducible apply bne_iff_ne.2); omega) | ((with_reducible apply bne_eq_false_iff_eq.2); omega) | ((with_reducible apply bnot_t); omega) | ((with_reducible apply bnot_f); omega) | ((with_reducible apply dnot_t); omega) | ((with_reducible apply dnot_f); omega) | (simp; done) | (simp [hidn]; done) | (simp; omega))))
       | ((with_reducible apply G.split); rfl; rfl; rfl; all_goals (intro h; first | replace h := beq_t h | replace h := beq_f h | replace h := bne_t h | replace h := bne_f h | replace h := of_decide_eq_true h | replace h := of_decide_eq_false h | skip)))
    | with_reducible apply RG.done | with_reducible apply Q.tn | with_reducible apply Q.tr | with_reducible apply Q.te | with_reducible apply Q.bn | with_reducible apply Q.br | with_reducible apply Q.be | ((with_reducible apply Q.bx); decide) | with_reducible apply Q.tp | with_reducible apply Q.bp
    | with_reducible apply SW.seq | with_reducible apply SW.block | with_reducible apply SW.ret | with_reducible apply SW.skip | with_reducible apply SW.exit
    | ((with_reducible apply SW.cond1); rfl; (focus (first | with_reducible rfl | ((with_reducible apply decide_eq_true); omega) | ((with_reducible apply decide_eq_false); omega) | ((with_reducible apply beq_iff_eq.2); omega) | ((with_reducible apply beq_eq_false_iff_ne.2); omega) | ((with_reducible apply bne_iff_ne.2); omega) | ((with_reducible apply bne_eq_false_iff_eq.2); omega) | ((with_reducible apply bnot_t); omega) | ((with_reducible apply bnot_f); omega) | ((with_reducible apply dnot_t); omega) | ((with_reducible apply dnot_f); omega) | (simp; done) | (simp [hidn]; done) | (simp; omega)))) | ((with_reducible apply SW.cond0); rfl; (focus (first | with_reducible rfl | ((with_reducible apply decide_eq_true); omega) | ((with_reducible apply decide_eq_false); omega) | ((with_reducible apply beq_iff_eq.2); omega) | ((with_reducible apply beq_eq_false_iff_ne.2); omega) | ((with_reducible apply bne_iff_ne.2); omega) | ((with_reducible apply bne_eq_false_iff_eq.2); omega) | ((with_reducible apply bnot_t); omega) | ((with_reducible apply bnot_f); omega) | ((with_reducible apply dnot_t); omega) | ((with_reducible apply dnot_f); omega) | (simp; done) | (simp [hidn]; done) | (simp; omega))))
    | ((with_reducible apply SW.cond); rfl; all_goals (intro h; first | replace h := beq_t h | replace h := beq_f h | replace h := bne_t h | replace h := bne_f h | replace h := of_decide_eq_true h | replace h := of_decide_eq_false h | skip))
    | ((with_reducible apply SW.region0); kernel_rfl; rfl)
    | ((with_reducible apply SW.region1 (id := 19) [0, 1, 2, 3, 4, 5]); rfl; kernel_rfl))
  all_goals ((apply Q.rret (.cons (by first | exact .tmp rfl | exact .cell rfl (by repeat (first | exact List.Mem.head _ | apply List.Mem.tail)) rfl) .nil)); ((focus (repeat (first | exact Rems.all | exact Rems.nil | (apply Rems.own; (focus (repeat (first | exact OIn.here | apply OIn.there | apply OIn.over)))) | (apply Rems.cons; (focus (repeat (first | assumption | exact Rem.here | apply Rem.there | apply Rem.oH)))) | apply Rems.skip | apply Rems.oskip)))); (first | rfl | (simp [tupV]; done) | (simp [tupV]; omega)))

theorem GtabOnce_own : ownKnob Try.prog.godebug = none := by kernel_rfl
theorem GtabOnce_laid : laidOutB Try.prog = true := by kernel_rfl
set_option maxRecDepth 100000 in
theorem GtabOnce_lifted (os : Os) (started : os.Started) (H : Type) (enc : TypeId × Value → H) :
    ReturnsInHanded {} Try.checked os 3 .any (Rows.gtabOnceSpec.pre6 enc Try.prog Try.f3 Rows.gtabOnceRow.domain false) (Rows.gtabOnceSpec.post enc Try.prog Try.f3 false true false false) := by
  refine returnsInHanded_of_change (C := Try.checked) GtabOnce_own started (by kernel_rfl) Try.func3
    (ChangeSpec.witness6 (enc := enc) (C := Try.checked) false ⟨#[], #[.int .u8 0, .slice none 0 0], []⟩ 8 (by kernel_rfl) (by kernel_rfl) (by kernel_rfl) (by kernel_rfl)) ?_
  intro W base args ds gs before hval0 hW _ _
  have hval : ∀ (j : Nat) t v, Try.f3.params[j]? = some t → args[j]? = some v → Value.okWide Try.prog W .any base t v := hval0
  have hW' := hW
  obtain ⟨p, q, hA0, hV, rfl, _, _⟩ := hW
  obtain ⟨rfl, rfl⟩ := trodVars_none hV
  have hA : DataW.TrodAll enc Try.prog W 0 (fun _ => true) true Try.f3.params.toList args.toList ds p := hA0
  rw [Try.params3] at hA hval
  obtain ⟨v0, v1, d0, d1, p0, p1, rfl, rfl, rfl, h0, h1⟩ := trodAll_two hA

  obtain ⟨x0, rfl, _, _, w0⟩ := open_int Try.underlying5 (hval 0 5 _ rfl rfl) h0
  obtain ⟨a1, n1, c1, Hc1, els1, rfl, q11, q12, q13, q14, q15, q16, q17⟩ := open_slice Try.underlying22 4 (ks := [.i .i64, .i .i64, .i .u32, .i .i64]) (by kernel_rfl) (by kernel_rfl) (by decide) (hval 1 22 _ rfl rfl) h1
  obtain ⟨L1, rfl⟩ := deeds_of q14
  have s1 : Has Hc1 a1 (cellsD L1) := q15
  rw [List.length_map] at q11
  refine (RC.run (GtabOnce_rc Hc1 x0 (okI_u8 w0) a1 n1 c1 L1 q12 q11 s1) q16).mono fun e W' ⟨he, hb⟩ => ?_
  subst he
  exact ⟨_, rfl, law_post GtabOnce_laid (by decide +kernel) rfl Try.underlying4 rfl (fun ds h => by match ds, h with | [d0, d1], _ => rfl) rfl hW' hb⟩

theorem GtabOnce_holds : Rows.GtabOnceSaid :=
  OpenClaim.holds_of_wide 3 Try.f3 rfl rfl rfl rfl rfl rfl rfl ⟨rfl, rfl, rfl, rfl, rfl⟩ rfl rfl rfl rfl rfl (by kernel_rfl) Try.func3 (by kernel_rfl)
    (of_decide_eq_true (by kernel_rfl)) (by unfold Func.isWrapper; first | (rw [if_pos (by decide +kernel)]; kernel_rfl) | (rw [if_neg (by decide +kernel)]; exact ⟨rfl, rfl⟩))
    (fun os started H enc _ => GtabOnce_lifted os started H enc)

end Go.Proofs.Ytbfncpfmeankpaa
