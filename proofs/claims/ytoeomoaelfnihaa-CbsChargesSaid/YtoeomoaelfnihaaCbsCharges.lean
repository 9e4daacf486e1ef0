/- CbsCharges: the law holds of every input. -/
import Derived.Test.YtoeomoaelfnihaaKF
namespace Go.Proofs.Ytoeomoaelfnihaa
open Go Go.RowKit Bw Go.ChangeShapes Go.WideShapes Go.ChangeAt
set_option linter.unusedSimpArgs false
set_option linter.unusedVariables false
attribute [local irreducible] OC RC DC XC


theorem deed_cells {l : List Value} (h : MatchK [.i .i64, .i .i64, .i .u64, .i .u64, .i .u64] l) : ∃ a i b p n, l = [.int .i64 a, .int .i64 i, .int .u64 b, .int .u64 p, .int .u64 n] ∧ okI .i64 a ∧ okI .i64 i ∧ okI .u64 b ∧ okI .u64 p ∧ okI .u64 n := by
  have h5 := h.length
  match l, h5, h with
  | [v1, v2, v3, v4, v5], _, h =>
    obtain ⟨⟨a, rfl, ha⟩, ⟨i, rfl, hi⟩, ⟨b, rfl, hb⟩, ⟨p, rfl, hp⟩, ⟨n, rfl, hn⟩, _⟩ := h
    exact ⟨a, i, b, p, n, rfl, ha, hi, hb, hp, hn⟩
theorem deeds_of : ∀ {els : List (List Value)}, (∀ x ∈ els, MatchK [.i .i64, .i .i64, .i .u64, .i .u64, .i .u64] x) → ∃ l : List Deed, els = l.map deedC ∧ ∀ y ∈ l, y.ok
  | [], _ => ⟨[], rfl, fun _ h => nomatch h⟩
  | x :: els, h => by
    obtain ⟨l, hl, h2⟩ := deeds_of (els := els) fun y hy => h y (List.mem_cons_of_mem _ hy)
    obtain ⟨a, i, b, p, n, rfl, ha, hi, hb, hp, hn⟩ := deed_cells (h x (List.mem_cons_self ..))
    refine ⟨⟨a, i, b, p, n⟩ :: l, by rw [hl]; rfl, fun y hy => ?_⟩
    rcases List.mem_cons.1 hy with rfl | hy
    · exact ⟨okI_u64 hb, okI_u64 hp, okI_u64 hn⟩
    · exact h2 y hy

theorem left_rng2 {l : List Srv} (h : ∀ x ∈ l, x.ok) (i : Int) : 0 ≤ leftV l i ∧ leftV l i ≤ 232792560 := by
  unfold leftV; split
  · rename_i x hx; have := (h x (getS_mem hx).1); unfold Srv.ok at this; omega
  · omega

theorem getS_set {l : List Srv} {j : Nat} {y : Srv} (hj : j < l.length) (i : Int) : getS (l.set j y) i = if i = (j : Nat) then some y else getS l i := by
  unfold getS
  rw [List.length_set]
  by_cases hin : 0 ≤ i ∧ i < l.length
  · rw [if_pos hin, if_pos hin, List.getElem?_set]
    by_cases h : i = (j : Nat)
    · rw [if_pos h, if_pos (by omega), if_pos (by omega)]
    · rw [if_neg h, if_neg (by omega)]
  · rw [if_neg hin, if_neg hin, if_neg (by omega)]
theorem ch {s : Svs} {k : Int} (hst : St s k) (i : Int) :
    (chaS s i).l.length = s.l.length ∧ (∀ q, dlV (chaS s i).l q = dlV s.l q) ∧ ((chaE s i = 2 ∧ chaB s i = false ∧ leftV s.l i = 0 ∧ ∀ q, leftV (chaS s i).l q = leftV s.l q) ∨ (chaE s i = 6 ∧ chaB s i = false ∧ leftV s.l i = 0 ∧ ∀ q, leftV (chaS s i).l q = leftV s.l q) ∨ (chaE s i = 0 ∧ 1 ≤ leftV s.l i ∧ chaB s i = (leftV (chaS s i).l i == 0) ∧ leftV (chaS s i).l i = leftV s.l i - 1 ∧ ∀ q, q ≠ i → leftV (chaS s i).l q = leftV s.l q)) := by
  by_cases hin : 0 ≤ i ∧ i < s.l.length
  · obtain ⟨j, x, rfl, hj, hx⟩ := getV hin
    have hm := List.mem_of_getElem? hx
    obtain ⟨r1, r2, r3, r4, r5, r6, r7⟩ := hst.ok.each x hm
    by_cases h0 : x.left = 0
    · obtain ⟨c1, c2, c3⟩ := cha_zero hj hx h0
      rw [c1, c2, c3]
      refine ⟨rfl, fun _ => rfl, .inr (.inl ⟨rfl, rfl, ?_, fun _ => rfl⟩)⟩
      rw [leftV_in hj hx]; exact h0
    · obtain ⟨c1, c2, c3⟩ := cha_in hj hx h0
      rw [c1, c2, c3]
      have hg := fun q => getS_set (l := s.l) (y := { x with left := x.left - 1 }) hj q
      have hgx := getS_in hj hx
      refine ⟨List.length_set .., fun q => ?_, .inr (.inr ⟨rfl, ?_, ?_, ?_, fun q hq => ?_⟩)⟩
      · unfold dlV; dsimp only; rw [hg]
        by_cases h : q = (j : Nat)
        · subst h; rw [if_pos rfl, hgx]
        · rw [if_neg h]
      · rw [leftV_in hj hx]; omega
      · unfold leftV; dsimp only; rw [hg, if_pos rfl]
      · unfold leftV; dsimp only; rw [hg, if_pos rfl, hgx]
      · unfold leftV; dsimp only; rw [hg, if_neg hq]
  · obtain ⟨c1, c2, c3⟩ := cha_out hin
    rw [c1, c2, c3]
    exact ⟨rfl, fun _ => rfl, .inl ⟨rfl, rfl, leftV_out hin, fun _ => rfl⟩⟩

set_option maxHeartbeats 4000000 in
set_option maxRecDepth 4000 in
theorem CbsCharges_rc (H : Hp) (n : Int) (hn : 0 ≤ n ∧ n < 256) (a : Option Addr) (m c : Nat) (l : List Deed) (hm : m ≤ c) (hc : l.length = c) (hs : Has H a (cellsD l)) (hL : ∀ y ∈ l, y.ok) (i : Int) : RC Try.prog 8 #[.int .u8 n, .slice a m c, .int .i64 i] H (.bool true) := by
  all_goals (try unfold RC)
  all_goals (try unfold DC)
  all_goals refine OC.of_sw Try.func8 rfl Try.ntmps8 (Nat.le_of_ble_eq_true rfl) fun C => ?_
  repeat' (first
    | ((with_reducible apply SW.bloopI (id := 0) (α := Nat) (Inv := (fun q => q ≤ s.l.length)) (I := (fun (q : Nat) => [(2, .int .i64 i), (7, .pointer (some ⟨b, 0, none⟩)), (10, .pointer (some ⟨bf, 0, none⟩)), (11, .bool (chaB s i)), (12, .int .i64 (chaE s i)), (13, .int .i64 (q : Nat))])) (J := (fun (_ : Nat) => svH b (chaS s i) v (svH bf s w1 H))) (μ := (fun q => s.l.length - q)) (x0 := 0)); (exact Nat.zero_le _); (apply Exists.intro; apply And.intro; (focus (repeat (first | exact trivial | refine ⟨rfl, ?_⟩))); (focus (repeat (first | exact Rems.all | exact Rems.nil | (apply Rems.own; (focus (repeat (first | exact OIn.here | apply OIn.there | apply OIn.over)))) | (apply Rems.cons; (focus (repeat (first | assumption | exact Rem.here | apply Rem.there | apply Rem.oH)))) | apply Rems.skip | apply Rems.oskip)))); (rintro q hq; (try dsimp only at hq); have hq0 := left_rng2 hst.ok.each (q : Nat); have hdq := hcd (q : Nat); rcases Nat.lt_or_ge q s.l.length with hlt | hge; (case' inl => (rcases Decidable.em ((q : Int) = i) with hqi | hqi)); (all_goals first | (have hlq := u4 (q : Nat)) | (have hlq := u5 (q : Nat) hqi) | (have hlq : leftV (chaS s i).l (q : Nat) = leftV s.l (q : Nat) - 1 := by rw [hqi]; exact u4) | skip); (all_goals first | (have hq1 : 1 ≤ leftV s.l (q : Nat) := by rw [hqi]; exact u2) | skip)))
    | ((refine Exists.intro (q + 1) ?_); (apply Exists.intro); (refine ⟨?_, ?_, ?_, ?_⟩); (omega); (focus (repeat (first | exact trivial | refine ⟨rfl, ?_⟩))); (focus (repeat (first | exact Rems.all | exact Rems.nil | (apply Rems.own; (focus (repeat (first | exact OIn.here | apply OIn.there | apply OIn.over)))) | (apply Rems.cons; (focus (repeat (first | assumption | exact Rem.here | apply Rem.there | apply Rem.oH)))) | apply Rems.skip | apply Rems.oskip))); (omega))
    | ((with_reducible apply G.at); rfl; first
       | ((with_reducible apply G.move); rfl; rfl) | ((with_reducible apply G.assign); rfl; rfl)
       | ((with_reducible apply G.load0); rfl; rfl; (focus (repeat (first | exact List.Mem.head _ | assumption | apply List.Mem.tail | apply mem_oH))); rfl) | ((with_reducible apply G.load1); rfl; rfl; (focus (repeat (first | exact List.Mem.head _ | assumption | apply List.Mem.tail | apply mem_oH))); rfl)
       | ((with_reducible apply G.loadS0); rfl; rfl; (focus (repeat (first | assumption | exact Has.row (List.Mem.head _) | (apply Has.mine; assumption) | apply Has.tail | apply Has.oH | exact Has.nil))); assumption; (first | assumption | rfl)) | ((with_reducible apply G.loadS1); rfl; rfl; (first | assumption | exact Has.row (List.Mem.head _)); (focus (intro p hp; repeat (first | assumption | apply List.Mem.tail | apply mem_oH))); assumption; (first | assumption | rfl); intro _ _ _)
       | ((with_reducible apply G.faddrh (k := 0)); rfl; rfl; rfl) | ((with_reducible apply G.faddrh (k := 1)); rfl; rfl; rfl) | ((with_reducible apply G.faddrh (k := 2)); rfl; rfl; rfl) | ((with_reducible apply G.faddrh (k := 3)); rfl; rfl; rfl) | ((with_reducible apply G.faddrh (k := 4)); rfl; rfl; rfl) | ((with_reducible apply G.faddrh (k := 5)); rfl; rfl; rfl) | ((with_reducible apply G.faddrh (k := 6)); rfl; rfl; rfl) | ((with_reducible apply G.faddrh (k := 7)); rfl; rfl; rfl)
       | ((with_reducible apply G.faddrS (d := 0)); rfl; rfl; rfl; assumption) | ((with_reducible apply G.faddrS (d := 1)); rfl; rfl; rfl; assumption) | ((with_reducible apply G.faddrS (d := 2)); rfl; rfl; rfl; assumption) | ((with_reducible apply G.faddrS (d := 3)); rfl; rfl; rfl; assumption) | ((with_reducible apply G.faddrS (d := 4)); rfl; rfl; rfl; assumption) | ((with_reducible apply G.faddrS (d := 5)); rfl; rfl; rfl; assumption) | ((with_reducible apply G.faddrS (d := 6)); rfl; rfl; rfl; assumption) | ((with_reducible apply G.faddrS (d := 7)); rfl; rfl; rfl; assumption)
       | ((with_reducible apply G.hcall (f := 22)); rfl; rfl; exact Try.call22; ((apply play_oc (hn := hn) (hm := hm) (hc := hc) (hL := hL)); (focus (repeat (first | assumption | exact Has.row (List.Mem.head _) | (apply Has.mine; assumption) | apply Has.tail | apply Has.oH | exact Has.nil)))); (rintro _ _ ⟨s, v, v2, b, br, rfl, rfl, hst, hv, hv2⟩; (focus (repeat (first | exact StOk.nil | (refine StOk.keep ?_ ?_; (focus ((repeat (first | exact List.Mem.head _ | assumption | apply List.Mem.tail | apply mem_oH)); done))) | refine StOk.gone (by kernel_rfl) ?_)))); (rintro _ _ ⟨s, v, v2, b, br, rfl, rfl, hst, hv, hv2⟩; obtain ⟨hcl, hcd, hch⟩ := ch hst i; have hl0 := left_rng2 hst.ok.each i; have hl32 := hst.ok.len; rcases hch with ⟨u1, u2, u3, u4⟩ | ⟨u1, u2, u3, u4⟩ | ⟨u1, u2, u3, u4, u5⟩))
       | ((with_reducible apply G.rcall (f := 18)); rfl; rfl; exact Try.call18; exact live_dc.rc; (focus (repeat (first | exact StOk.nil | (refine StOk.keep ?_ ?_; (focus ((repeat (first | exact List.Mem.head _ | assumption | apply List.Mem.tail | apply mem_oH)); done))) | refine StOk.gone (by kernel_rfl) ?_))))
       | ((with_reducible apply G.hcall (f := 26)); rfl; rfl; exact Try.call26; ((apply fork_oc (s := s) (v := v)); (focus ((repeat (first | exact List.Mem.head _ | assumption | apply List.Mem.tail | apply mem_oH)); done)); assumption; (focus (repeat (first | assumption | exact Has.row (List.Mem.head _) | (apply Has.mine; assumption) | apply Has.tail | apply Has.oH | exact Has.nil))); exact hst.ok.len); (rintro _ _ ⟨bf, w1, rfl, rfl, hw1⟩; (focus (repeat (first | exact StOk.nil | (refine StOk.keep ?_ ?_; (focus ((repeat (first | exact List.Mem.head _ | assumption | apply List.Mem.tail | apply mem_oH)); done))) | refine StOk.gone (by kernel_rfl) ?_)))); (rintro _ _ ⟨bf, w1, rfl, rfl, hw1⟩))
       | ((with_reducible apply G.gcall (f := 21)); rfl; rfl; exact Try.call21; ((apply charge_oc (s := s) (v := v) (ho := hst.ok)); rotate_left; assumption); (focus (repeat (first | exact Pick.rest | ((with_reducible apply Pick.own); (focus (repeat (first | exact OIn.here | apply OIn.there | apply OIn.over)))) | ((with_reducible apply Pick.cons); (focus (repeat (first | assumption | exact Rem.here | apply Rem.there | apply Rem.oH))))))); (rintro _ _ ⟨rfl, rfl, hcv⟩; (focus (repeat (first | exact StOk.nil | (refine StOk.keep ?_ ?_; (focus ((repeat (first | exact List.Mem.head _ | assumption | apply List.Mem.tail | apply mem_oH)); done))) | refine StOk.gone (by kernel_rfl) ?_)))); (rintro _ _ ⟨rfl, rfl, hcv⟩))
       | ((with_reducible apply G.rcall (f := 23)); rfl; rfl; exact Try.call23; (first | ((apply left_rc (s := s) (v := w1)); (focus ((repeat (first | exact List.Mem.head _ | assumption | apply List.Mem.tail | apply mem_oH)); done)); assumption; (focus (repeat (first | assumption | exact Has.row (List.Mem.head _) | (apply Has.mine; assumption) | apply Has.tail | apply Has.oH | exact Has.nil)))) | ((apply left_rc (s := chaS s i) (v := v)); (focus ((repeat (first | exact List.Mem.head _ | assumption | apply List.Mem.tail | apply mem_oH)); done)); assumption; (focus (repeat (first | assumption | exact Has.row (List.Mem.head _) | (apply Has.mine; assumption) | apply Has.tail | apply Has.oH | exact Has.nil))))); (focus (repeat (first | exact StOk.nil | (refine StOk.keep ?_ ?_; (focus ((repeat (first | exact List.Mem.head _ | assumption | apply List.Mem.tail | apply mem_oH)); done))) | refine StOk.gone (by kernel_rfl) ?_))))
       | ((with_reducible apply G.rcall (f := 24)); rfl; rfl; exact Try.call24; (first | ((apply dl_rc (s := s) (v := w1)); (focus ((repeat (first | exact List.Mem.head _ | assumption | apply List.Mem.tail | apply mem_oH)); done)); assumption; (focus (repeat (first | assumption | exact Has.row (List.Mem.head _) | (apply Has.mine; assumption) | apply Has.tail | apply Has.oH | exact Has.nil)))) | ((apply dl_rc (s := chaS s i) (v := v)); (focus ((repeat (first | exact List.Mem.head _ | assumption | apply List.Mem.tail | apply mem_oH)); done)); assumption; (focus (repeat (first | assumption | exact Has.row (List.Mem.head _) | (apply Has.mine; assumption) | apply Has.tail | apply Has.oH | exact Has.nil))))); (focus (repeat (first | exact StOk.nil | (refine StOk.keep ?_ ?_; (focus ((repeat (first | exact List.Mem.head _ | assumption | apply List.Mem.tail | apply mem_oH)); done))) | refine StOk.gone (by kernel_rfl) ?_))))
       | ((with_reducible apply G.rcall (f := 16)); rfl; rfl; exact Try.call16; (first | ((apply active_rc (s := s) (v := w1)); (focus ((repeat (first | exact List.Mem.head _ | assumption | apply List.Mem.tail | apply mem_oH)); done)); assumption; (focus (repeat (first | assumption | exact Has.row (List.Mem.head _) | (apply Has.mine; assumption) | apply Has.tail | apply Has.oH | exact Has.nil)))) | ((apply active_rc (s := chaS s i) (v := v)); (focus ((repeat (first | exact List.Mem.head _ | assumption | apply List.Mem.tail | apply mem_oH)); done)); assumption; (focus (repeat (first | assumption | exact Has.row (List.Mem.head _) | (apply Has.mine; assumption) | apply Has.tail | apply Has.oH | exact Has.nil))))); (focus (repeat (first | exact StOk.nil | (refine StOk.keep ?_ ?_; (focus ((repeat (first | exact List.Mem.head _ | assumption | apply List.Mem.tail | apply mem_oH)); done))) | refine StOk.gone (by kernel_rfl) ?_))))
       | ((with_reducible apply G.rcall (f := 17)); rfl; rfl; exact Try.call17; ((apply len_rc (s := chaS s i) (v := v)); (focus ((repeat (first | exact List.Mem.head _ | assumption | apply List.Mem.tail | apply mem_oH)); done))); (focus (repeat (first | exact StOk.nil | (refine StOk.keep ?_ ?_; (focus ((repeat (first | exact List.Mem.head _ | assumption | apply List.Mem.tail | apply mem_oH)); done))) | refine StOk.gone (by kernel_rfl) ?_))))
       | ((with_reducible apply G.nilck); rfl; rfl) | ((with_reducible apply G.extract); rfl; rfl; rfl) | ((with_reducible apply G.len); rfl; rfl; rfl) | ((with_reducible apply G.pick1); rfl; rfl; rfl) | ((with_reducible apply G.pick0); rfl; rfl; rfl) | ((with_reducible apply G.unw); rfl) | ((with_reducible apply G.unw0); rfl)
       | ((with_reducible apply G.boxa); rfl; rfl; intro b) | ((with_reducible apply G.box); rfl; rfl; intro b) | ((with_reducible apply G.alloc); rfl; rfl; rfl; intro b)
       | ((with_reducible apply G.store); rfl; rfl; rfl; rfl; rfl; rfl; (focus (repeat (first | assumption | exact Rem.here | apply Rem.there | apply Rem.oH))); (exact Nat.le_of_ble_eq_true rfl); (focus (repeat (first | exact StOk.nil | (refine StOk.keep ?_ ?_; (focus ((repeat (first | exact List.Mem.head _ | assumption | apply List.Mem.tail | apply mem_oH)); done))) | refine StOk.gone (by kernel_rfl) ?_))); rfl)
       | ((with_reducible apply G.build); rfl; rfl; rfl) | ((with_reducible apply G.eqs); rfl; rfl; rfl; rfl; (kernel_rfl); (kernel_rfl)) | ((with_reducible apply G.nes); rfl; rfl; rfl; rfl; (kernel_rfl); (kernel_rfl))
       | ((with_reducible apply G.num); rfl; rfl; rfl; rfl; rfl; (first | ((with_reducible apply shl8); omega; omega) | ((with_reducible apply shl16); omega; omega) | ((with_reducible apply or8); omega; omega; omega; omega) | ((with_reducible apply or16); omega; omega; omega; omega) | ((with_reducible apply or24); omega; omega; omega; omega; omega; omega) | ((with_reducible apply i64_in); omega; omega) | ((with_reducible apply wrap8_in); omega; omega) | ((with_reducible apply u64_in); omega; omega) | with_reducible exact shr16 _ | with_reducible exact shr8 _ | with_reducible exact wrap8_mod _ | with_reducible exact shr32u _ | ((with_reducible apply and32u); omega; omega) | with_reducible exact wrap64_mod _))
       | ((with_reducible apply G.min2); rfl; rfl; rfl; (first | (apply if_pos; omega) | (apply if_neg; omega) | rfl)) | ((with_reducible apply G.max2); rfl; rfl; rfl; (first | (apply if_pos; omega) | (apply if_neg; omega) | rfl))
       | ((with_reducible apply G.pure); rfl; rfl; rfl; rfl; rfl)
       | ((with_reducible apply G.known true); rfl; rfl; rfl; (focus (first | with_reducible rfl | ((with_reducible apply decide_eq_true); omega) | ((with_reducible apply decide_eq_false); omega) | ((with_reducible apply beq_iff_eq.2); omega) | ((with_reducible apply beq_eq_false_iff_ne.2); omega) | ((with_reducible apply bne_iff_ne.2); omega) | ((with_reducible apply bne_eq_false_iff_eq.2); omega) | ((with_reducible apply bnot_t); omega) | ((with_reducible apply bnot_f); omega) | ((with_reducible apply dnot_t); omega) | ((with_reducible apply dnot_f); omega) | (simp; done) | (simp [*]; done)))) | ((with_reducible apply G.known false); rfl; rfl; rfl; (focus (first | with_reducible rfl | ((with_reducible apply decide_eq_true); omega) | ((with_reducible apply decide_eq_false); omega) | ((with_reducible apply beq_iff_eq.2); omega) | ((with_reducible apply beq_eq_false_iff_ne.2); omega) | ((with_reducible apply bne_iff_ne.2); omega) | ((with_reducible apply bne_eq_false_iff_eq.2); omega) | ((with_reducible apply bnot_t); omega) | ((with_reducible apply bnot_f); omega) | ((with_reducible apply dnot_t); omega) | ((with_reducible apply dnot_f); omega) | (simp; done) | (simp [*]; done))))
       | ((with_reducible apply G.split); rfl; rfl; rfl; all_goals (intro h; first | replace h := beq_t h | replace h := beq_f h | replace h := bne_t h | replace h := bne_f h | replace h := of_decide_eq_true h | replace h := of_decide_eq_false h | skip)))
    | with_reducible apply RG.done | with_reducible apply Q.tn | with_reducible apply Q.tr | with_reducible apply Q.te | with_reducible apply Q.bn | with_reducible apply Q.br | with_reducible apply Q.be | ((with_reducible apply Q.bx); decide) | with_reducible apply Q.tp | with_reducible apply Q.bp
    | with_reducible apply SW.seq | with_reducible apply SW.block | with_reducible apply SW.ret | with_reducible apply SW.skip | with_reducible apply SW.exit
    | ((with_reducible apply SW.cond1); rfl; (focus (first | with_reducible rfl | ((with_reducible apply decide_eq_true); omega) | ((with_reducible apply decide_eq_false); omega) | ((with_reducible apply beq_iff_eq.2); omega) | ((with_reducible apply beq_eq_false_iff_ne.2); omega) | ((with_reducible apply bne_iff_ne.2); omega) | ((with_reducible apply bne_eq_false_iff_eq.2); omega) | ((with_reducible apply bnot_t); omega) | ((with_reducible apply bnot_f); omega) | ((with_reducible apply dnot_t); omega) | ((with_reducible apply dnot_f); omega) | (simp; done) | (simp [*]; done)))) | ((with_reducible apply SW.cond0); rfl; (focus (first | with_reducible rfl | ((with_reducible apply decide_eq_true); omega) | ((with_reducible apply decide_eq_false); omega) | ((with_reducible apply beq_iff_eq.2); omega) | ((with_reducible apply beq_eq_false_iff_ne.2); omega) | ((with_reducible apply bne_iff_ne.2); omega) | ((with_reducible apply bne_eq_false_iff_eq.2); omega) | ((with_reducible apply bnot_t); omega) | ((with_reducible apply bnot_f); omega) | ((with_reducible apply dnot_t); omega) | ((with_reducible apply dnot_f); omega) | (simp; done) | (simp [*]; done))))
    | ((with_reducible apply SW.cond); rfl; all_goals (intro h; first | replace h := beq_t h | replace h := beq_f h | replace h := bne_t h | replace h := bne_f h | replace h := of_decide_eq_true h | replace h := of_decide_eq_false h | skip))
    | ((with_reducible apply SW.region0); kernel_rfl; rfl))
  all_goals ((apply Q.rret (.cons (by first | exact .tmp rfl | exact .cell rfl (by repeat (first | exact List.Mem.head _ | apply List.Mem.tail)) rfl) .nil)); ((focus (repeat (first | exact Rems.all | exact Rems.nil | (apply Rems.own; (focus (repeat (first | exact OIn.here | apply OIn.there | apply OIn.over)))) | (apply Rems.cons; (focus (repeat (first | assumption | exact Rem.here | apply Rem.there | apply Rem.oH)))) | apply Rems.skip | apply Rems.oskip)))); (first | rfl | (simp [tupV]; done) | (simp [tupV, u1]; done) | (simp only [tupV, u3, bne]; simp; done) | (simp [tupV]; omega)))

theorem CbsCharges_own : ownKnob Try.prog.godebug = none := by kernel_rfl
theorem CbsCharges_laid : laidOutB Try.prog = true := by kernel_rfl
set_option maxRecDepth 100000 in
theorem CbsCharges_lifted (os : Os) (started : os.Started) (H : Type) (enc : TypeId × Value → H) :
    ReturnsInHanded {} Try.checked os 8 .any (Rows.cbsChargesSpec.pre6 enc Try.prog Try.f8 Rows.cbsChargesRow.domain false) (Rows.cbsChargesSpec.post enc Try.prog Try.f8 false true false false) := by
  refine returnsInHanded_of_change (C := Try.checked) CbsCharges_own started (by kernel_rfl) Try.func8
    (ChangeSpec.witness6 (enc := enc) (C := Try.checked) false ⟨#[], #[.int .u8 0, .slice none 0 0, .int .i64 0], []⟩ 8 (by kernel_rfl) (by kernel_rfl) (by kernel_rfl) (by kernel_rfl)) ?_
  intro W base args ds gs before hval0 hW _ _
  have hval : ∀ (j : Nat) t v, Try.f8.params[j]? = some t → args[j]? = some v → Value.okWide Try.prog W .any base t v := hval0
  have hW' := hW
  obtain ⟨p, q, hA0, hV, rfl, _, _⟩ := hW
  obtain ⟨rfl, rfl⟩ := trodVars_none hV
  have hA : DataW.TrodAll enc Try.prog W 0 (fun _ => true) true Try.f8.params.toList args.toList ds p := hA0
  rw [Try.params8] at hA hval
  obtain ⟨v0, v1, v2, d0, d1, d2, p0, p1, p2, rfl, rfl, rfl, h0, h1, h2⟩ := trodAll_three hA

  obtain ⟨x0, rfl, _, _, w0⟩ := open_int Try.underlying5 (hval 0 5 _ rfl rfl) h0
  obtain ⟨a1, n1, c1, Hc1, els1, rfl, q11, q12, q13, q14, q15, q16, q17⟩ := open_slice Try.underlying36 4 (ks := [.i .i64, .i .i64, .i .u64, .i .u64, .i .u64]) (by kernel_rfl) (by kernel_rfl) (by decide) (hval 1 36 _ rfl rfl) h1
  obtain ⟨L1, rfl, hL1⟩ := deeds_of q14
  have s1 : Has Hc1 a1 (cellsD L1) := q15
  rw [List.length_map] at q11
  obtain ⟨x2, rfl, _, _, w2⟩ := open_int Try.underlying3 (hval 2 3 _ rfl rfl) h2
  refine (RC.run (CbsCharges_rc Hc1 x0 (okI_u8 w0) a1 n1 c1 L1 q12 q11 s1 hL1 x2) q16).mono fun e W' ⟨he, hb⟩ => ?_
  subst he
  exact ⟨_, rfl, law_post CbsCharges_laid (by decide +kernel) rfl Try.underlying4 rfl (fun ds h => by match ds, h with | [d0, d1, d2], _ => rfl) rfl hW' hb⟩

theorem CbsCharges_holds : Rows.CbsChargesSaid :=
  OpenClaim.holds_of_wide 8 Try.f8 rfl rfl rfl rfl rfl rfl rfl ⟨rfl, rfl, rfl, rfl, rfl⟩ rfl rfl rfl rfl rfl (by kernel_rfl) Try.func8 (by kernel_rfl)
    (of_decide_eq_true (by kernel_rfl)) (by unfold Func.isWrapper; first | (rw [if_pos (by decide +kernel)]; kernel_rfl) | (rw [if_neg (by decide +kernel)]; exact ⟨rfl, rfl⟩))
    (fun os started H enc _ => CbsCharges_lifted os started H enc)

end Go.Proofs.Ytoeomoaelfnihaa
