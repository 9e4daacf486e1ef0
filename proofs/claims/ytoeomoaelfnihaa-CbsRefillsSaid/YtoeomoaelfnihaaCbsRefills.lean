/- CbsRefills: the law holds of every input. -/
import Derived.Test.YtoeomoaelfnihaaKF
namespace Go.Proofs.Ytoeomoaelfnihaa
open Go Go.RowKit Bw Go.ChangeShapes Go.WideShapes Go.ChangeAt
set_option linter.unusedSimpArgs false
set_option linter.unusedVariables false
attribute [local irreducible] OC RC DC XC


theorem deed_cells {l : List Value} (h : MatchK [.i .i64, .i .i64, .i .u64, .i .u64, .i .u64] l) : ∃ a i b p n, l = [.int .i64 a, .int .i64 i, .int .u64 b, .int .u64 p, .int .u64 n] ∧ okI .i64 a ∧ okI .i64 i ∧ okI .u64 b ∧ okI .u64 p ∧ okI .u64 n := by
  have h5 := h.length
  match l, h5, h with
  | [v1, v2, v3, v4, v5], _, h =>
    obtain ⟨⟨a, rfl, ha⟩, ⟨i, rfl, hi⟩, ⟨b, rfl, hb⟩, ⟨p, rfl, hp⟩, ⟨n, rfl, hn⟩, _⟩ := h
    exact ⟨a, i, b, p, n, rfl, ha, hi, hb, hp, hn⟩
theorem deeds_of : ∀ {els : List (List Value)}, (∀ x ∈ els, MatchK [.i .i64, .i .i64, .i .u64, .i .u64, .i .u64] x) → ∃ l : List Deed, els = l.map deedC ∧ ∀ y ∈ l, y.ok
  | [], _ => ⟨[], rfl, fun _ h => nomatch h⟩
  | x :: els, h => by
    obtain ⟨l, hl, h2⟩ := deeds_of (els := els) fun y hy => h y (List.mem_cons_of_mem _ hy)
    obtain ⟨a, i, b, p, n, rfl, ha, hi, hb, hp, hn⟩ := deed_cells (h x (List.mem_cons_self ..))
    refine ⟨⟨a, i, b, p, n⟩ :: l, by rw [hl]; rfl, fun y hy => ?_⟩
    rcases List.mem_cons.1 hy with rfl | hy
    · exact ⟨okI_u64 hb, okI_u64 hp, okI_u64 hn⟩
    · exact h2 y hy

theorem left_rng2 {l : List Srv} (h : ∀ x ∈ l, x.ok) (i : Int) : 0 ≤ leftV l i ∧ leftV l i ≤ 232792560 := by
  unfold leftV; split
  · rename_i x hx; have := (h x (getS_mem hx).1); unfold Srv.ok at this; omega
  · omega

abbrev s2 (s : Svs) (now : Int) : Svs := ⟨s.room, s.sum, refL s.l now⟩
theorem refill_oc2 (s : Svs) (v : Own) (b : Nat) (now : Int) (F : Hp) (ho : s.ok) (hv : OOk 5 v s.l.length (cellsV s.l)) (hn : U64 now) : OC Try.prog 20 #[.pointer (some ⟨b, 0, none⟩), .int .u64 now] (svH b s v F) (fun u H' => ∃ vo, u = .slice (oA vo) (outL s.l now s.l.length).length (oC vo) ∧ H' = oH 3 vo (cellsN (outL s.l now s.l.length)) (svH b (s2 s now) v F) ∧ OOk 1 vo (outL s.l now s.l.length).length (cellsN (outL s.l now s.l.length)) ∧ OOk 5 v (s2 s now).l.length (cellsV (s2 s now).l)) :=
  OC.mono (refill_oc s v b now F ho hv hn) fun _ _ ⟨vo, h1, h2, h3⟩ => ⟨vo, h1, by rw [h2, ref_row], h3, ref_own hv now⟩
theorem out_mem {l : List Srv} {now : Int} {n t : Nat} {i : Int} (h : (outL l now n)[t]? = some i) : ∃ j : Nat, i = j ∧ j < n ∧ dueAt l now j = true := by
  have hm := List.mem_of_getElem? h
  obtain ⟨j, hj, rfl⟩ := List.mem_map.1 hm
  obtain ⟨h1, h2⟩ := List.mem_filter.1 hj
  exact ⟨j, rfl, List.mem_range.1 h1, h2⟩
theorem out_sorted (l : List Srv) (now : Int) (n : Nat) : (outL l now n).Pairwise (· < ·) := by
  unfold outL
  rw [List.pairwise_map]
  exact (List.Pairwise.filter _ List.pairwise_lt_range).imp fun h => by omega
theorem out_lt {l : List Srv} {now : Int} {n t : Nat} {i i' : Int} (h : (outL l now n)[t]? = some i) (h' : (outL l now n)[t - 1]? = some i') (ht : 0 < t) : i' < i := by
  obtain ⟨h1, h2⟩ := List.getElem?_eq_some_iff.1 h
  obtain ⟨h3, h4⟩ := List.getElem?_eq_some_iff.1 h'
  have := (List.pairwise_iff_getElem.1 (out_sorted l now n)) (t - 1) t h3 h1 (by omega)
  rw [h2, h4] at this; exact this
theorem due_iff {x : Srv} {now : Int} (h : dueB x now = true) : x.left = 0 ∧ x.dl ≤ now := by
  unfold dueB at h; simp only [Bool.and_eq_true, beq_iff_eq, decide_eq_true_eq] at h; exact h.2
theorem rfl_at {l : List Srv} (now : Int) {j : Nat} {x : Srv} (hx : l[j]? = some x) : (refL l now)[j]? = some (refX now x) := by
  rw [refL, List.getElem?_map, hx]; rfl
theorem out_facts {s : Svs} (hok : s.ok) {now : Int} {t : Nat} {i : Int} (h : (outL s.l now s.l.length)[t]? = some i) : leftV s.l i = 0 ∧ dlV s.l i ≤ now ∧ 0 < leftV (s2 s now).l i := by
  obtain ⟨j, rfl, hj, hd⟩ := out_mem h
  obtain ⟨x, hx⟩ : ∃ x, s.l[j]? = some x := ⟨_, List.getElem?_eq_getElem hj⟩
  unfold dueAt at hd; rw [hx] at hd; dsimp only at hd
  obtain ⟨h1, h2⟩ := due_iff hd
  have h3 := rfl_at now hx
  have hk := hok.each x (List.mem_of_getElem? hx)
  rw [leftV_in hj hx, dlV_in hj hx]
  refine ⟨h1, h2, ?_⟩
  show 0 < leftV (refL s.l now) j
  rw [leftV_in (by rw [refL, List.length_map]; exact hj) h3, refX, if_pos hd]
  show 0 < x.b
  have := hk.1; omega
theorem not_ne {a : Int} (h : a ≠ 0) : (!(a != 0)) = false := by simp [h]
theorem out_again {s : Svs} (hok : s.ok) (now : Int) (n : Nat) : outL (refL s.l now) now n = [] := by
  unfold outL
  have : (List.range n).filter (dueAt (refL s.l now) now) = [] := by
    rw [List.filter_eq_nil_iff]
    intro j _
    unfold dueAt
    cases hx : s.l[j]? with
    | none => rw [refL, List.getElem?_map, hx]; simp
    | some x =>
      rw [rfl_at now hx]; dsimp only
      have hk := hok.each x (List.mem_of_getElem? hx)
      unfold refX
      by_cases hd : dueB x now = true
      · rw [if_pos hd]
        intro h
        have := (due_iff h).1
        have h0 : x.b = 0 := this
        have := hk.1; omega
      · rw [if_neg hd]; exact hd
  rw [this]; rfl
theorem refill_oc3 (s : Svs) (v : Own) (b : Nat) (now : Int) (F : Hp) (h0 : s.ok) (ho : (s2 s now).ok) (hv : OOk 5 v (s2 s now).l.length (cellsV (s2 s now).l)) (hn : U64 now) : OC Try.prog 20 #[.pointer (some ⟨b, 0, none⟩), .int .u64 now] (svH b (s2 s now) v F) (fun u H' => ∃ vo, u = .slice (oA vo) 0 (oC vo) ∧ H' = oH 3 vo (cellsN []) (svH b (s2 (s2 s now) now) v F)) :=
  OC.mono (refill_oc2 (s2 s now) v b now F ho hv hn) fun _ _ ⟨vo, h1, h2, h3, h4⟩ => by
    have e : outL (s2 s now).l now (s2 s now).l.length = [] := out_again h0 now _
    rw [e] at h1 h2
    exact ⟨vo, h1, h2⟩

set_option maxHeartbeats 4000000 in
set_option maxRecDepth 4000 in
theorem CbsRefills_rc (H : Hp) (n : Int) (hn : 0 ≤ n ∧ n < 256) (a : Option Addr) (m c : Nat) (l : List Deed) (hm : m ≤ c) (hc : l.length = c) (hs : Has H a (cellsD l)) (hL : ∀ y ∈ l, y.ok) (now : Int) (hnow : U64 now) : RC Try.prog 7 #[.int .u8 n, .slice a m c, .int .u64 now] H (.bool true) := by
  all_goals (try unfold RC)
  all_goals (try unfold DC)
  all_goals refine OC.of_sw Try.func7 rfl Try.ntmps7 (Nat.le_of_ble_eq_true rfl) fun C => ?_
  repeat' (first
    | ((with_reducible apply SW.bloopI (id := 0) (α := Nat) (Inv := (fun t => t ≤ (outL s.l now s.l.length).length)) (I := (fun (t : Nat) => [(2, .int .u64 now), (7, .pointer (some ⟨b, 0, none⟩)), (10, .pointer (some ⟨bf, 0, none⟩)), (11, .slice (oA vo) (outL s.l now s.l.length).length (oC vo)), (12, .int .i64 (t : Nat))])) (J := (fun (_ : Nat) => oH 3 vo (cellsN (outL s.l now s.l.length)) (svH b (s2 s now) v (svH bf s w1 H)))) (μ := (fun t => (outL s.l now s.l.length).length - t)) (x0 := 0)); (exact Nat.zero_le _); (apply Exists.intro; apply And.intro; (focus (repeat (first | exact trivial | refine ⟨rfl, ?_⟩))); (focus (repeat (first | exact Rems.all | exact Rems.nil | (apply Rems.own; (focus (repeat (first | exact OIn.here | apply OIn.there | apply OIn.over)))) | (apply Rems.cons; (focus (repeat (first | assumption | exact Rem.here | apply Rem.there | apply Rem.oH)))) | apply Rems.skip | apply Rems.oskip)))); (rintro t ht; (try dsimp only at ht); have hso := Has.mine (e := 3) (H := svH b (s2 s now) v (svH bf s w1 H)) hvo; rcases Nat.lt_or_ge t (outL s.l now s.l.length).length with hlt | hge; (case' inl => (obtain ⟨i, hx⟩ : ∃ i, (outL s.l now s.l.length)[t]? = some i := ⟨_, List.getElem?_eq_getElem hlt⟩; obtain ⟨f1, f2, f3⟩ := out_facts hst.ok hx; have f4 : (!(leftV (s2 s now).l i != 0)) = false := not_ne (by omega); have hne := n_ne hx; have hia := hso.isa hne; have xn := n_at hx; (rcases Nat.eq_zero_or_pos t with ht0 | ht0); (case' inr => (obtain ⟨i2, hx2⟩ : ∃ i2, (outL s.l now s.l.length)[t - 1]? = some i2 := ⟨_, List.getElem?_eq_getElem (by omega)⟩; have hlt2 := out_lt hx hx2 ht0; have xn2 := n_at hx2))))))
    | ((refine Exists.intro (t + 1) ?_); (apply Exists.intro); (refine ⟨?_, ?_, ?_, ?_⟩); (omega); (focus (repeat (first | exact trivial | refine ⟨rfl, ?_⟩))); (focus (repeat (first | exact Rems.all | exact Rems.nil | (apply Rems.own; (focus (repeat (first | exact OIn.here | apply OIn.there | apply OIn.over)))) | (apply Rems.cons; (focus (repeat (first | assumption | exact Rem.here | apply Rem.there | apply Rem.oH)))) | apply Rems.skip | apply Rems.oskip))); (omega))
    | ((with_reducible apply G.at); rfl; first
       | ((with_reducible apply G.move); rfl; rfl) | ((with_reducible apply G.assign); rfl; rfl)
       | ((with_reducible apply G.load0); rfl; rfl; (focus (repeat (first | exact List.Mem.head _ | assumption | apply List.Mem.tail | apply mem_oH))); rfl) | ((with_reducible apply G.load1); rfl; rfl; (focus (repeat (first | exact List.Mem.head _ | assumption | apply List.Mem.tail | apply mem_oH))); rfl)
       | ((with_reducible apply G.loadS0); rfl; rfl; (focus (repeat (first | assumption | exact Has.row (List.Mem.head _) | (apply Has.mine; assumption) | apply Has.tail | apply Has.oH | exact Has.nil))); assumption; (first | assumption | rfl)) | ((with_reducible apply G.loadS1); rfl; rfl; (first | assumption | exact Has.row (List.Mem.head _)); (focus (intro p hp; repeat (first | assumption | apply List.Mem.tail | apply mem_oH))); assumption; (first | assumption | rfl); intro _ _ _)
       | ((with_reducible apply G.faddrh (k := 0)); rfl; rfl; rfl) | ((with_reducible apply G.faddrh (k := 1)); rfl; rfl; rfl) | ((with_reducible apply G.faddrh (k := 2)); rfl; rfl; rfl) | ((with_reducible apply G.faddrh (k := 3)); rfl; rfl; rfl) | ((with_reducible apply G.faddrh (k := 4)); rfl; rfl; rfl) | ((with_reducible apply G.faddrh (k := 5)); rfl; rfl; rfl) | ((with_reducible apply G.faddrh (k := 6)); rfl; rfl; rfl) | ((with_reducible apply G.faddrh (k := 7)); rfl; rfl; rfl)
       | ((with_reducible apply G.faddrS (d := 0)); rfl; rfl; rfl; assumption) | ((with_reducible apply G.faddrS (d := 1)); rfl; rfl; rfl; assumption) | ((with_reducible apply G.faddrS (d := 2)); rfl; rfl; rfl; assumption) | ((with_reducible apply G.faddrS (d := 3)); rfl; rfl; rfl; assumption) | ((with_reducible apply G.faddrS (d := 4)); rfl; rfl; rfl; assumption) | ((with_reducible apply G.faddrS (d := 5)); rfl; rfl; rfl; assumption) | ((with_reducible apply G.faddrS (d := 6)); rfl; rfl; rfl; assumption) | ((with_reducible apply G.faddrS (d := 7)); rfl; rfl; rfl; assumption)
       | ((with_reducible apply G.iaddrS (size := 1) (j := t)); rfl; rfl; rfl; rfl; assumption; (first | rfl | omega); (first | assumption | omega))
       | ((with_reducible apply G.iaddrS (size := 1) (j := (t - 1))); rfl; rfl; rfl; rfl; assumption; (first | rfl | omega); (first | assumption | omega))
       | ((with_reducible apply G.hcall (f := 22)); rfl; rfl; exact Try.call22; ((apply play_oc (hn := hn) (hm := hm) (hc := hc) (hL := hL)); (focus (repeat (first | assumption | exact Has.row (List.Mem.head _) | (apply Has.mine; assumption) | apply Has.tail | apply Has.oH | exact Has.nil)))); (rintro _ _ ⟨s, v, v2, b, br, rfl, rfl, hst, hv, hv2⟩; (focus (repeat (first | exact StOk.nil | (refine StOk.keep ?_ ?_; (focus ((repeat (first | exact List.Mem.head _ | assumption | apply List.Mem.tail | apply mem_oH)); done))) | refine StOk.gone (by kernel_rfl) ?_)))); (rintro _ _ ⟨s, v, v2, b, br, rfl, rfl, hst, hv, hv2⟩; have hl32 := hst.ok.len; have hol := out_len s.l now s.l.length; have ho2 := ref_ok hst.ok hnow))
       | ((with_reducible apply G.rcall (f := 18)); rfl; rfl; exact Try.call18; exact live_dc.rc; (focus (repeat (first | exact StOk.nil | (refine StOk.keep ?_ ?_; (focus ((repeat (first | exact List.Mem.head _ | assumption | apply List.Mem.tail | apply mem_oH)); done))) | refine StOk.gone (by kernel_rfl) ?_))))
       | ((with_reducible apply G.hcall (f := 26)); rfl; rfl; exact Try.call26; ((apply fork_oc (s := s) (v := v)); (focus ((repeat (first | exact List.Mem.head _ | assumption | apply List.Mem.tail | apply mem_oH)); done)); assumption; (focus (repeat (first | assumption | exact Has.row (List.Mem.head _) | (apply Has.mine; assumption) | apply Has.tail | apply Has.oH | exact Has.nil))); exact hst.ok.len); (rintro _ _ ⟨bf, w1, rfl, rfl, hw1⟩; (focus (repeat (first | exact StOk.nil | (refine StOk.keep ?_ ?_; (focus ((repeat (first | exact List.Mem.head _ | assumption | apply List.Mem.tail | apply mem_oH)); done))) | refine StOk.gone (by kernel_rfl) ?_)))); (rintro _ _ ⟨bf, w1, rfl, rfl, hw1⟩))
       | ((with_reducible apply G.rcall (f := 24)); rfl; rfl; exact Try.call24; (first | ((apply dl_rc (s := s) (v := w1)); (focus ((repeat (first | exact List.Mem.head _ | assumption | apply List.Mem.tail | apply mem_oH)); done)); assumption; (focus (repeat (first | assumption | exact Has.row (List.Mem.head _) | (apply Has.mine; assumption) | apply Has.tail | apply Has.oH | exact Has.nil)))) | ((apply dl_rc (s := s2 s now) (v := v)); (focus ((repeat (first | exact List.Mem.head _ | assumption | apply List.Mem.tail | apply mem_oH)); done)); assumption; (focus (repeat (first | assumption | exact Has.row (List.Mem.head _) | (apply Has.mine; assumption) | apply Has.tail | apply Has.oH | exact Has.nil))))); (focus (repeat (first | exact StOk.nil | (refine StOk.keep ?_ ?_; (focus ((repeat (first | exact List.Mem.head _ | assumption | apply List.Mem.tail | apply mem_oH)); done))) | refine StOk.gone (by kernel_rfl) ?_))))
       | ((with_reducible apply G.rcall (f := 16)); rfl; rfl; exact Try.call16; (first | ((apply active_rc (s := s) (v := w1)); (focus ((repeat (first | exact List.Mem.head _ | assumption | apply List.Mem.tail | apply mem_oH)); done)); assumption; (focus (repeat (first | assumption | exact Has.row (List.Mem.head _) | (apply Has.mine; assumption) | apply Has.tail | apply Has.oH | exact Has.nil)))) | ((apply active_rc (s := s2 s now) (v := v)); (focus ((repeat (first | exact List.Mem.head _ | assumption | apply List.Mem.tail | apply mem_oH)); done)); assumption; (focus (repeat (first | assumption | exact Has.row (List.Mem.head _) | (apply Has.mine; assumption) | apply Has.tail | apply Has.oH | exact Has.nil))))); (focus (repeat (first | exact StOk.nil | (refine StOk.keep ?_ ?_; (focus ((repeat (first | exact List.Mem.head _ | assumption | apply List.Mem.tail | apply mem_oH)); done))) | refine StOk.gone (by kernel_rfl) ?_))))
       | ((with_reducible apply G.gcall (f := 20)); rfl; rfl; exact Try.call20; ((apply refill_oc2 (s := s) (v := v) (ho := hst.ok) (hn := hnow)); rotate_left; assumption); (focus (repeat (first | exact Pick.rest | ((with_reducible apply Pick.own); (focus (repeat (first | exact OIn.here | apply OIn.there | apply OIn.over)))) | ((with_reducible apply Pick.cons); (focus (repeat (first | assumption | exact Rem.here | apply Rem.there | apply Rem.oH))))))); (rintro _ _ ⟨vo, rfl, rfl, hvo, hv'⟩; (focus (repeat (first | exact StOk.nil | (refine StOk.keep ?_ ?_; (focus ((repeat (first | exact List.Mem.head _ | assumption | apply List.Mem.tail | apply mem_oH)); done))) | refine StOk.gone (by kernel_rfl) ?_)))); (rintro _ _ ⟨vo, rfl, rfl, hvo, hv'⟩))
       | ((with_reducible apply G.gcall (f := 20)); rfl; rfl; exact Try.call20; ((apply refill_oc3 (s := s) (v := v) (h0 := hst.ok) (ho := ho2) (hn := hnow)); rotate_left; assumption); (focus (repeat (first | exact Pick.rest | ((with_reducible apply Pick.own); (focus (repeat (first | exact OIn.here | apply OIn.there | apply OIn.over)))) | ((with_reducible apply Pick.cons); (focus (repeat (first | assumption | exact Rem.here | apply Rem.there | apply Rem.oH))))))); (rintro _ _ ⟨vo3, rfl, rfl⟩; (focus (repeat (first | exact StOk.nil | (refine StOk.keep ?_ ?_; (focus ((repeat (first | exact List.Mem.head _ | assumption | apply List.Mem.tail | apply mem_oH)); done))) | refine StOk.gone (by kernel_rfl) ?_)))); (rintro _ _ ⟨vo3, rfl, rfl⟩))
       | ((with_reducible apply G.nilck); rfl; rfl) | ((with_reducible apply G.extract); rfl; rfl; rfl) | ((with_reducible apply G.len); rfl; rfl; rfl) | ((with_reducible apply G.pick1); rfl; rfl; rfl) | ((with_reducible apply G.pick0); rfl; rfl; rfl) | ((with_reducible apply G.unw); rfl) | ((with_reducible apply G.unw0); rfl)
       | ((with_reducible apply G.boxa); rfl; rfl; intro b) | ((with_reducible apply G.box); rfl; rfl; intro b) | ((with_reducible apply G.alloc); rfl; rfl; rfl; intro b)
       | ((with_reducible apply G.store); rfl; rfl; rfl; rfl; rfl; rfl; (focus (repeat (first | assumption | exact Rem.here | apply Rem.there | apply Rem.oH))); (exact Nat.le_of_ble_eq_true rfl); (focus (repeat (first | exact StOk.nil | (refine StOk.keep ?_ ?_; (focus ((repeat (first | exact List.Mem.head _ | assumption | apply List.Mem.tail | apply mem_oH)); done))) | refine StOk.gone (by kernel_rfl) ?_))); rfl)
       | ((with_reducible apply G.build); rfl; rfl; rfl) | ((with_reducible apply G.eqs); rfl; rfl; rfl; rfl; (kernel_rfl); (kernel_rfl)) | ((with_reducible apply G.nes); rfl; rfl; rfl; rfl; (kernel_rfl); (kernel_rfl))
       | ((with_reducible apply G.num); rfl; rfl; rfl; rfl; rfl; (first | ((with_reducible apply shl8); omega; omega) | ((with_reducible apply shl16); omega; omega) | ((with_reducible apply or8); omega; omega; omega; omega) | ((with_reducible apply or16); omega; omega; omega; omega) | ((with_reducible apply or24); omega; omega; omega; omega; omega; omega) | ((with_reducible apply i64_in); omega; omega) | ((with_reducible apply wrap8_in); omega; omega) | ((with_reducible apply u64_in); omega; omega) | with_reducible exact shr16 _ | with_reducible exact shr8 _ | with_reducible exact wrap8_mod _ | with_reducible exact shr32u _ | ((with_reducible apply and32u); omega; omega) | with_reducible exact wrap64_mod _))
       | ((with_reducible apply G.min2); rfl; rfl; rfl; (first | (apply if_pos; omega) | (apply if_neg; omega) | rfl)) | ((with_reducible apply G.max2); rfl; rfl; rfl; (first | (apply if_pos; omega) | (apply if_neg; omega) | rfl))
       | ((with_reducible apply G.pure); rfl; rfl; rfl; rfl; rfl)
       | ((with_reducible apply G.known true); rfl; rfl; rfl; (focus (first | exact f4 | with_reducible rfl | ((with_reducible apply decide_eq_true); omega) | ((with_reducible apply decide_eq_false); omega) | ((with_reducible apply beq_iff_eq.2); omega) | ((with_reducible apply beq_eq_false_iff_ne.2); omega) | ((with_reducible apply bne_iff_ne.2); omega) | ((with_reducible apply bne_eq_false_iff_eq.2); omega) | ((with_reducible apply bnot_t); omega) | ((with_reducible apply bnot_f); omega) | ((with_reducible apply dnot_t); omega) | ((with_reducible apply dnot_f); omega) | (simp; done)))) | ((with_reducible apply G.known false); rfl; rfl; rfl; (focus (first | exact f4 | with_reducible rfl | ((with_reducible apply decide_eq_true); omega) | ((with_reducible apply decide_eq_false); omega) | ((with_reducible apply beq_iff_eq.2); omega) | ((with_reducible apply beq_eq_false_iff_ne.2); omega) | ((with_reducible apply bne_iff_ne.2); omega) | ((with_reducible apply bne_eq_false_iff_eq.2); omega) | ((with_reducible apply bnot_t); omega) | ((with_reducible apply bnot_f); omega) | ((with_reducible apply dnot_t); omega) | ((with_reducible apply dnot_f); omega) | (simp; done))))
       | ((with_reducible apply G.split); rfl; rfl; rfl; all_goals (intro h; first | replace h := beq_t h | replace h := beq_f h | replace h := bne_t h | replace h := bne_f h | replace h := of_decide_eq_true h | replace h := of_decide_eq_false h | skip)))
    | with_reducible apply RG.done | with_reducible apply Q.tn | with_reducible apply Q.tr | with_reducible apply Q.te | with_reducible apply Q.bn | with_reducible apply Q.br | with_reducible apply Q.be | ((with_reducible apply Q.bx); decide) | with_reducible apply Q.tp | with_reducible apply Q.bp
    | with_reducible apply SW.seq | with_reducible apply SW.block | with_reducible apply SW.ret | with_reducible apply SW.skip | with_reducible apply SW.exit
    | ((with_reducible apply SW.cond1); rfl; (focus (first | with_reducible rfl | ((with_reducible apply decide_eq_true); omega) | ((with_reducible apply decide_eq_false); omega) | ((with_reducible apply beq_iff_eq.2); omega) | ((with_reducible apply beq_eq_false_iff_ne.2); omega) | ((with_reducible apply bne_iff_ne.2); omega) | ((with_reducible apply bne_eq_false_iff_eq.2); omega) | ((with_reducible apply bnot_t); omega) | ((with_reducible apply bnot_f); omega) | ((with_reducible apply dnot_t); omega) | ((with_reducible apply dnot_f); omega) | (simp; done)))) | ((with_reducible apply SW.cond0); rfl; (focus (first | with_reducible rfl | ((with_reducible apply decide_eq_true); omega) | ((with_reducible apply decide_eq_false); omega) | ((with_reducible apply beq_iff_eq.2); omega) | ((with_reducible apply beq_eq_false_iff_ne.2); omega) | ((with_reducible apply bne_iff_ne.2); omega) | ((with_reducible apply bne_eq_false_iff_eq.2); omega) | ((with_reducible apply bnot_t); omega) | ((with_reducible apply bnot_f); omega) | ((with_reducible apply dnot_t); omega) | ((with_reducible apply dnot_f); omega) | (simp; done))))
    | ((with_reducible apply SW.cond); rfl; all_goals (intro h; first | replace h := beq_t h | replace h := beq_f h | replace h := bne_t h | replace h := bne_f h | replace h := of_decide_eq_true h | replace h := of_decide_eq_false h | skip))
    | ((with_reducible apply SW.region0); kernel_rfl; rfl)
    | ((with_reducible apply SW.region1 (id := 9) [0, 1, 2, 3, 4, 5, 6, 7, 8, 9, 10, 11, 13, 12, 14, 15, 16, 17, 18, 19, 20, 21, 22, 23, 24, 25, 26, 27, 28, 29, 30, 31, 32, 33, 34, 35, 36, 37, 38, 39, 40]); rfl; kernel_rfl))
  all_goals ((apply Q.rret (.cons (by first | exact .tmp rfl | exact .cell rfl (by repeat (first | exact List.Mem.head _ | apply List.Mem.tail)) rfl) .nil)); ((focus (repeat (first | exact Rems.all | exact Rems.nil | (apply Rems.own; (focus (repeat (first | exact OIn.here | apply OIn.there | apply OIn.over)))) | (apply Rems.cons; (focus (repeat (first | assumption | exact Rem.here | apply Rem.there | apply Rem.oH)))) | apply Rems.skip | apply Rems.oskip)))); (first | rfl | (simp [tupV]; done) | (simp [tupV]; omega)))

theorem CbsRefills_own : ownKnob Try.prog.godebug = none := by kernel_rfl
theorem CbsRefills_laid : laidOutB Try.prog = true := by kernel_rfl
set_option maxRecDepth 100000 in
theorem CbsRefills_lifted (os : Os) (started : os.Started) (H : Type) (enc : TypeId × Value → H) :
    ReturnsInHanded {} Try.checked os 7 .any (Rows.cbsRefillsSpec.pre6 enc Try.prog Try.f7 Rows.cbsRefillsRow.domain false) (Rows.cbsRefillsSpec.post enc Try.prog Try.f7 false true false false) := by
  refine returnsInHanded_of_change (C := Try.checked) CbsRefills_own started (by kernel_rfl) Try.func7
    (ChangeSpec.witness6 (enc := enc) (C := Try.checked) false ⟨#[], #[.int .u8 0, .slice none 0 0, .int .u64 0], []⟩ 8 (by kernel_rfl) (by kernel_rfl) (by kernel_rfl) (by kernel_rfl)) ?_
  intro W base args ds gs before hval0 hW _ _
  have hval : ∀ (j : Nat) t v, Try.f7.params[j]? = some t → args[j]? = some v → Value.okWide Try.prog W .any base t v := hval0
  have hW' := hW
  obtain ⟨p, q, hA0, hV, rfl, _, _⟩ := hW
  obtain ⟨rfl, rfl⟩ := trodVars_none hV
  have hA : DataW.TrodAll enc Try.prog W 0 (fun _ => true) true Try.f7.params.toList args.toList ds p := hA0
  rw [Try.params7] at hA hval
  obtain ⟨v0, v1, v2, d0, d1, d2, p0, p1, p2, rfl, rfl, rfl, h0, h1, h2⟩ := trodAll_three hA

  obtain ⟨x0, rfl, _, _, w0⟩ := open_int Try.underlying5 (hval 0 5 _ rfl rfl) h0
  obtain ⟨a1, n1, c1, Hc1, els1, rfl, q11, q12, q13, q14, q15, q16, q17⟩ := open_slice Try.underlying36 4 (ks := [.i .i64, .i .i64, .i .u64, .i .u64, .i .u64]) (by kernel_rfl) (by kernel_rfl) (by decide) (hval 1 36 _ rfl rfl) h1
  obtain ⟨L1, rfl, hL1⟩ := deeds_of q14
  have s1 : Has Hc1 a1 (cellsD L1) := q15
  rw [List.length_map] at q11
  obtain ⟨x2, rfl, _, _, w2⟩ := open_int Try.underlying25 (hval 2 25 _ rfl rfl) h2
  refine (RC.run (CbsRefills_rc Hc1 x0 (okI_u8 w0) a1 n1 c1 L1 q12 q11 s1 hL1 x2 (okI_u64 w2)) q16).mono fun e W' ⟨he, hb⟩ => ?_
  subst he
  exact ⟨_, rfl, law_post CbsRefills_laid (by decide +kernel) rfl Try.underlying4 rfl (fun ds h => by match ds, h with | [d0, d1, d2], _ => rfl) rfl hW' hb⟩

theorem CbsRefills_holds : Rows.CbsRefillsSaid :=
  OpenClaim.holds_of_wide 7 Try.f7 rfl rfl rfl rfl rfl rfl rfl ⟨rfl, rfl, rfl, rfl, rfl⟩ rfl rfl rfl rfl rfl (by kernel_rfl) Try.func7 (by kernel_rfl)
    (of_decide_eq_true (by kernel_rfl)) (by unfold Func.isWrapper; first | (rw [if_pos (by decide +kernel)]; kernel_rfl) | (rw [if_neg (by decide +kernel)]; exact ⟨rfl, rfl⟩))
    (fun os started H enc _ => CbsRefills_lifted os started H enc)

end Go.Proofs.Ytoeomoaelfnihaa
