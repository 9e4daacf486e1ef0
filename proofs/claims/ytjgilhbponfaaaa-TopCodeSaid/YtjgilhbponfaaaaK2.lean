/- Contracts, K2. -/
import Derived.Test.YtjgilhbponfaaaaK
namespace Go.Proofs.Ytjgilhbponfaaaa
open Go Go.RowKit Bw
attribute [local irreducible] OC RC DC


def ints (l : List Int) : List Value := l.flatMap fun x => [Value.int .i64 x]
theorem ints_ne {l : List Int} {j : Nat} {x : Int} (h : l[j]? = some x) : ints l ≠ [] := flat_ne h (by simp)
theorem ints_3 {l : List Int} {j : Nat} {x : Int} (h : l[j]? = some x) : loadL Try.prog 3 (ints l) (j * 1) = some (.int .i64 x) := loadL_fld (m := 1) (d := 0) (n := 1) (by kernel_rfl) (fun _ => rfl) h (by decide) rfl
theorem eq_of_get {l m : List Int} (hl : l.length = m.length) (h : ∀ i, i < l.length → l[i]? = m[i]?) : l = m := by
  apply List.ext_getElem? 
  intro i
  by_cases hi : i < l.length
  · exact h i hi
  · rw [List.getElem?_eq_none (by omega), List.getElem?_eq_none (by omega)]
theorem get_succ {l m : List Int} {j : Nat} {x y : Int} (h : ∀ i, i < j → l[i]? = m[i]?) (hx : l[j]? = some x) (hy : m[j]? = some y) (e : x = y) : ∀ i, i < j + 1 → l[i]? = m[i]? := by
  intro i hi
  by_cases e' : i = j
  · subst e'; rw [hx, hy, e]
  · exact h i (by omega)
theorem ne_of_get {l m : List Int} {j : Nat} {x y : Int} (hx : l[j]? = some x) (hy : m[j]? = some y) (e : ¬ x = y) : ¬ l = m := by
  rintro rfl; rw [hx] at hy; exact e (Option.some.inj hy)

set_option maxHeartbeats 4000000 in
set_option maxRecDepth 4000 in
theorem same_rc (H : Hp) (a b : Option Addr) (c d : Nat) (l m : List Int) (_hb : l.length ≤ 9223372036854775807) (hs : Has H a (ints l)) (hs' : Has H b (ints m)) : RC Try.prog 16 #[.slice a l.length c, .slice b m.length d] H (.bool (decide (l = m))) := by
  all_goals (try unfold RC)
  all_goals (try unfold DC)
  all_goals refine OC.of_sw Try.func16 rfl Try.ntmps16 (Nat.le_of_ble_eq_true rfl) fun C => ?_
  repeat' (first
    | ((with_reducible apply SW.bloopI (id := 0) (α := Nat) (Inv := (fun j => j ≤ l.length ∧ ∀ i, i < j → l[i]? = m[i]?)) (I := (fun j => [(0, .slice a l.length c), (1, .slice b m.length d), (5, .int .i64 (j : Nat))])) (J := (fun _ => H)) (μ := (fun j => l.length - j)) (x0 := 0)); (exact ⟨by omega, fun i hi => absurd hi (by omega)⟩); (apply Exists.intro; apply And.intro; (focus (repeat (first | exact trivial | refine ⟨rfl, ?_⟩))); (focus (repeat (first | exact Rems.all | exact Rems.nil | (apply Rems.own; (focus (repeat (first | exact OIn.here | apply OIn.there | apply OIn.over)))) | (apply Rems.cons; (focus (repeat (first | assumption | exact Rem.here | apply Rem.there | apply Rem.oH)))) | apply Rems.skip | apply Rems.oskip)))); (intro j hj; obtain ⟨hj1, hj2⟩ := hj; rcases Nat.lt_or_ge j l.length with hlt | hge; (case' inl => (obtain ⟨x, hx⟩ : ∃ x, l[j]? = some x := ⟨_, List.getElem?_eq_getElem hlt⟩; obtain ⟨y, hy⟩ : ∃ y, m[j]? = some y := ⟨_, List.getElem?_eq_getElem (by omega)⟩; have hne := ints_ne hx; have ha := hs.isa hne; have e3 := ints_3 hx; have hne' := ints_ne hy; have ha' := hs'.isa hne'; have e3' := ints_3 hy))))
    | ((refine Exists.intro (j + 1) ?_); (apply Exists.intro); (refine ⟨?_, ?_, ?_, ?_⟩); (exact ⟨by omega, get_succ hj2 hx hy (by simp_all)⟩); (focus (repeat (first | exact trivial | refine ⟨rfl, ?_⟩))); (focus (repeat (first | exact Rems.all | exact Rems.nil | (apply Rems.own; (focus (repeat (first | exact OIn.here | apply OIn.there | apply OIn.over)))) | (apply Rems.cons; (focus (repeat (first | assumption | exact Rem.here | apply Rem.there | apply Rem.oH)))) | apply Rems.skip | apply Rems.oskip))); (omega))
    | ((with_reducible apply G.at); rfl; first
       | ((with_reducible apply G.move); rfl; rfl) | ((with_reducible apply G.assign); rfl; rfl)
       | ((with_reducible apply G.load0); rfl; rfl; (focus (repeat (first | exact List.Mem.head _ | assumption | apply List.Mem.tail | apply mem_oH))); rfl) | ((with_reducible apply G.load1); rfl; rfl; (focus (repeat (first | exact List.Mem.head _ | assumption | apply List.Mem.tail | apply mem_oH))); rfl)
       | ((with_reducible apply G.loadS0); rfl; rfl; (focus (repeat (first | assumption | exact Has.row (List.Mem.head _) | (apply Has.mine; assumption) | apply Has.tail | apply Has.oH | exact Has.nil))); assumption; (first | assumption | rfl)) | ((with_reducible apply G.loadS1); rfl; rfl; (first | assumption | exact Has.row (List.Mem.head _)); (focus (intro p hp; repeat (first | assumption | apply List.Mem.tail | apply mem_oH))); assumption; (first | assumption | rfl); intro _ _ _)
       | ((with_reducible apply G.faddrh (k := 0)); rfl; rfl; rfl) | ((with_reducible apply G.faddrh (k := 1)); rfl; rfl; rfl) | ((with_reducible apply G.faddrh (k := 2)); rfl; rfl; rfl) | ((with_reducible apply G.faddrh (k := 3)); rfl; rfl; rfl) | ((with_reducible apply G.faddrh (k := 4)); rfl; rfl; rfl) | ((with_reducible apply G.faddrh (k := 5)); rfl; rfl; rfl) | ((with_reducible apply G.faddrh (k := 6)); rfl; rfl; rfl) | ((with_reducible apply G.faddrh (k := 7)); rfl; rfl; rfl)
       | ((with_reducible apply G.faddrS (d := 0)); rfl; rfl; rfl; assumption) | ((with_reducible apply G.faddrS (d := 1)); rfl; rfl; rfl; assumption) | ((with_reducible apply G.faddrS (d := 2)); rfl; rfl; rfl; assumption) | ((with_reducible apply G.faddrS (d := 3)); rfl; rfl; rfl; assumption) | ((with_reducible apply G.faddrS (d := 4)); rfl; rfl; rfl; assumption) | ((with_reducible apply G.faddrS (d := 5)); rfl; rfl; rfl; assumption) | ((with_reducible apply G.faddrS (d := 6)); rfl; rfl; rfl; assumption) | ((with_reducible apply G.faddrS (d := 7)); rfl; rfl; rfl; assumption)
       | ((with_reducible apply G.iaddrS (size := 1) (j := j)); rfl; rfl; rfl; rfl; assumption; (first | rfl | omega); (first | assumption | omega))
       | ((with_reducible apply G.nilck); rfl; rfl) | ((with_reducible apply G.extract); rfl; rfl; rfl) | ((with_reducible apply G.len); rfl; rfl; rfl) | ((with_reducible apply G.pick1); rfl; rfl; rfl) | ((with_reducible apply G.pick0); rfl; rfl; rfl) | ((with_reducible apply G.unw); rfl) | ((with_reducible apply G.unw0); rfl)
       | ((with_reducible apply G.boxa); rfl; rfl; intro b) | ((with_reducible apply G.box); rfl; rfl; intro b) | ((with_reducible apply G.alloc); rfl; rfl; rfl; intro b)
       | ((with_reducible apply G.store); rfl; rfl; rfl; rfl; rfl; rfl; (focus (repeat (first | assumption | exact Rem.here | apply Rem.there | apply Rem.oH))); (exact Nat.le_of_ble_eq_true rfl); (focus (repeat (first | exact StOk.nil | (refine StOk.keep ?_ ?_; (focus ((repeat (first | exact List.Mem.head _ | assumption | apply List.Mem.tail | apply mem_oH)); done))) | refine StOk.gone (by kernel_rfl) ?_))); rfl)
       | ((with_reducible apply G.build); rfl; rfl; rfl) | ((with_reducible apply G.eqs); rfl; rfl; rfl; rfl; (kernel_rfl); (kernel_rfl)) | ((with_reducible apply G.nes); rfl; rfl; rfl; rfl; (kernel_rfl); (kernel_rfl))
       | ((with_reducible apply G.num); rfl; rfl; rfl; rfl; rfl; (first | with_reducible exact shl8 _ (by omega) (by omega) | with_reducible exact shl16 _ (by omega) (by omega) | with_reducible exact or8 (by omega) (by omega) (by omega) (by omega) | with_reducible exact or16 (by omega) (by omega) (by omega) (by omega) | with_reducible exact or24 (by omega) (by omega) (by omega) (by omega) (by omega) (by omega) | with_reducible exact i64_in _ (by omega) (by omega) | with_reducible exact wrap8_in _ (by omega) (by omega) | with_reducible exact u64_in _ (by omega) (by omega) | with_reducible exact shr16 _ | with_reducible exact shr8 _ | with_reducible exact wrap8_mod _))
       | ((with_reducible apply G.pure); rfl; rfl; rfl; rfl; rfl)
       | ((with_reducible apply G.split); rfl; rfl; rfl; all_goals (intro h; first | replace h := beq_t h | replace h := beq_f h | replace h := bne_t h | replace h := bne_f h | replace h := of_decide_eq_true h | replace h := of_decide_eq_false h | skip)))
    | with_reducible apply RG.done | with_reducible apply Q.tn | with_reducible apply Q.tr | with_reducible apply Q.te | with_reducible apply Q.bn | with_reducible apply Q.br | with_reducible apply Q.be | ((with_reducible apply Q.bx); decide) | with_reducible apply Q.tp | with_reducible apply Q.bp
    | with_reducible apply SW.seq | with_reducible apply SW.block | with_reducible apply SW.ret | with_reducible apply SW.skip | with_reducible apply SW.exit
    | ((with_reducible apply SW.cond1); rfl; (focus (first | rfl | exact decide_eq_true (by omega) | exact decide_eq_false (by omega)))) | ((with_reducible apply SW.cond0); rfl; (focus (first | rfl | exact decide_eq_true (by omega) | exact decide_eq_false (by omega))))
    | ((with_reducible apply SW.cond); rfl; all_goals (intro h; first | replace h := beq_t h | replace h := beq_f h | replace h := bne_t h | replace h := bne_f h | replace h := of_decide_eq_true h | replace h := of_decide_eq_false h | skip))
    | ((with_reducible apply SW.region0); kernel_rfl; rfl)
    | ((with_reducible apply SW.region1 (id := 6) [0, 1, 2, 3, 4, 5, 6, 7, 8]); rfl; kernel_rfl))
  all_goals ((apply Q.rret (.cons (by first | exact .tmp rfl | exact .cell rfl (by repeat (first | exact List.Mem.head _ | apply List.Mem.tail)) rfl) .nil)); ((focus (repeat (first | exact Rems.all | exact Rems.nil | (apply Rems.own; (focus (repeat (first | exact OIn.here | apply OIn.there | apply OIn.over)))) | (apply Rems.cons; (focus (repeat (first | assumption | exact Rem.here | apply Rem.there | apply Rem.oH)))) | apply Rems.skip | apply Rems.oskip)))); (first | (simp only [tupV]; rw [decide_eq_true (eq_of_get (by simp_all; omega) fun i hi => hj2 i (by omega))]) | (simp only [tupV]; rw [decide_eq_false (ne_of_get hx hy (by simp_all))]) | (simp only [tupV]; rw [decide_eq_false (by intro e; subst e; simp_all)])))

@[irreducible] def nxt (l : List IV) (p : Int) : Option Int :=
  if (chk l).1 ≠ 0 ∨ p < 0 ∨ l.length ≤ p then none else match l[p.toNat]? with
  | some x => if x.1 = 9 then none else if x.1 = 8 then some x.2 else some (p + 1)
  | none => none
def NextR (l : List IV) (p : Int) (H : Hp) (u : Value) (H' : Hp) : Prop :=
  (nxt l p = none ∧ u = .slice none 0 0 ∧ H' = H) ∨ ∃ v b, nxt l p = some v ∧ u = .slice (some ⟨b, 0, none⟩) 1 1 ∧ H' = (b, .row 3 [.int .i64 v] 0) :: H
theorem nxt_not {l : List IV} {p : Int} (h : (chk l).1 ≠ 0 ∨ p < 0 ∨ l.length ≤ p) : nxt l p = none := by unfold nxt; rw [if_pos h]
theorem nxt_in {l : List IV} {p : Int} {x : IV} (h : (chk l).1 = 0) (h0 : 0 ≤ p ∧ p < l.length) (hx : l[p.toNat]? = some x) : nxt l p = if x.1 = 9 then none else if x.1 = 8 then some x.2 else some (p + 1) := by
  unfold nxt; rw [if_neg (by omega)]; simp only [hx]
section
variable {l : List IV} {p : Int} {H : Hp} {x : IV} {b : Nat}
theorem nextR_n1 (h : ¬ (chk l).1 = 0) : NextR l p H (.slice none 0 0) H := .inl ⟨nxt_not (.inl h), rfl, rfl⟩
theorem nextR_n2 (h : p < 0) : NextR l p H (.slice none 0 0) H := .inl ⟨nxt_not (.inr (.inl h)), rfl, rfl⟩
theorem nextR_n3 (h : p ≥ (l.length : Int)) : NextR l p H (.slice none 0 0) H := .inl ⟨nxt_not (.inr (.inr h)), rfl, rfl⟩
theorem nextR_n4 (h : (chk l).1 = 0) (h0 : 0 ≤ p ∧ p < l.length) (hx : l[p.toNat]? = some x) (h9 : x.1 = 9) : NextR l p H (.slice none 0 0) H := .inl ⟨by rw [nxt_in h h0 hx, if_pos h9], rfl, rfl⟩
theorem nextR_s8 (h : (chk l).1 = 0) (h0 : 0 ≤ p ∧ p < l.length) (hx : l[p.toNat]? = some x) (h9 : ¬ x.1 = 9) (h8 : x.1 = 8) : NextR l p H (.slice (some ⟨b, 0, none⟩) 1 1) ((b, .row 3 [.int .i64 x.2] 0) :: H) :=
  .inr ⟨_, _, by rw [nxt_in h h0 hx, if_neg h9, if_pos h8], rfl, rfl⟩
theorem nextR_sn (h : (chk l).1 = 0) (h0 : 0 ≤ p ∧ p < l.length) (hx : l[p.toNat]? = some x) (h9 : ¬ x.1 = 9) (h8 : ¬ x.1 = 8) : NextR l p H (.slice (some ⟨b, 0, none⟩) 1 1) ((b, .row 3 [.int .i64 (p + 1)] 0) :: H) :=
  .inr ⟨_, _, by rw [nxt_in h h0 hx, if_neg h9, if_neg h8], rfl, rfl⟩
end

set_option maxHeartbeats 4000000 in
set_option maxRecDepth 4000 in
theorem next_oc (H : Hp) (a : Option Addr) (c : Nat) (l : List IV) (p : Int) (hp : I64 p) (hs : Has H a (cellsI l)) : OC Try.prog 17 #[.slice a l.length c, .int .i64 p] H (NextR l p H) := by
  obtain ⟨hp1, hp2⟩ := hp
  have h64 : (chk l).1 = 0 → l.length ≤ 64 := fun h => (chk_ok h).2.1
  by_cases hat : 0 ≤ p ∧ p < l.length
  case' pos => (obtain ⟨x, hx⟩ : ∃ x, l[p.toNat]? = some x := ⟨_, List.getElem?_eq_getElem (by omega)⟩; have hne := cellsI_ne hx; have ha := hs.isa hne; have e31 := cellsI_31 hx; have e29 := cellsI_29 hx; have e3 := cellsI_3 hx)
  all_goals (try unfold RC)
  all_goals (try unfold DC)
  all_goals refine OC.of_sw Try.func17 rfl Try.ntmps17 (Nat.le_of_ble_eq_true rfl) fun C => ?_
  repeat' (first
    | ((with_reducible apply G.at); rfl; first
       | ((with_reducible apply G.move); rfl; rfl) | ((with_reducible apply G.assign); rfl; rfl)
       | ((with_reducible apply G.load0); rfl; rfl; (focus (repeat (first | exact List.Mem.head _ | assumption | apply List.Mem.tail | apply mem_oH))); rfl) | ((with_reducible apply G.load1); rfl; rfl; (focus (repeat (first | exact List.Mem.head _ | assumption | apply List.Mem.tail | apply mem_oH))); rfl)
       | ((with_reducible apply G.loadS0); rfl; rfl; (focus (repeat (first | assumption | exact Has.row (List.Mem.head _) | (apply Has.mine; assumption) | apply Has.tail | apply Has.oH | exact Has.nil))); assumption; (first | assumption | rfl)) | ((with_reducible apply G.loadS1); rfl; rfl; (first | assumption | exact Has.row (List.Mem.head _)); (focus (intro p hp; repeat (first | assumption | apply List.Mem.tail | apply mem_oH))); assumption; (first | assumption | rfl); intro _ _ _)
       | ((with_reducible apply G.faddrh (k := 0)); rfl; rfl; rfl) | ((with_reducible apply G.faddrh (k := 1)); rfl; rfl; rfl) | ((with_reducible apply G.faddrh (k := 2)); rfl; rfl; rfl) | ((with_reducible apply G.faddrh (k := 3)); rfl; rfl; rfl) | ((with_reducible apply G.faddrh (k := 4)); rfl; rfl; rfl) | ((with_reducible apply G.faddrh (k := 5)); rfl; rfl; rfl) | ((with_reducible apply G.faddrh (k := 6)); rfl; rfl; rfl) | ((with_reducible apply G.faddrh (k := 7)); rfl; rfl; rfl)
       | ((with_reducible apply G.faddrS (d := 0)); rfl; rfl; rfl; assumption) | ((with_reducible apply G.faddrS (d := 1)); rfl; rfl; rfl; assumption) | ((with_reducible apply G.faddrS (d := 2)); rfl; rfl; rfl; assumption) | ((with_reducible apply G.faddrS (d := 3)); rfl; rfl; rfl; assumption) | ((with_reducible apply G.faddrS (d := 4)); rfl; rfl; rfl; assumption) | ((with_reducible apply G.faddrS (d := 5)); rfl; rfl; rfl; assumption) | ((with_reducible apply G.faddrS (d := 6)); rfl; rfl; rfl; assumption) | ((with_reducible apply G.faddrS (d := 7)); rfl; rfl; rfl; assumption)
       | ((with_reducible apply G.iaddrS (size := 2) (j := p.toNat)); rfl; rfl; rfl; rfl; assumption; (first | rfl | omega); (first | assumption | omega))
       | ((with_reducible apply G.bslice); rfl; rfl; intro b)
       | ((with_reducible apply G.rcall (f := 13)); rfl; rfl; exact Try.call13; (exact check_rc _ _ _ _ (by assumption)); (focus (repeat (first | exact StOk.nil | (refine StOk.keep ?_ ?_; (focus ((repeat (first | exact List.Mem.head _ | assumption | apply List.Mem.tail | apply mem_oH)); done))) | refine StOk.gone (by kernel_rfl) ?_))))
       | ((with_reducible apply G.nilck); rfl; rfl) | ((with_reducible apply G.extract); rfl; rfl; rfl) | ((with_reducible apply G.len); rfl; rfl; rfl) | ((with_reducible apply G.pick1); rfl; rfl; rfl) | ((with_reducible apply G.pick0); rfl; rfl; rfl) | ((with_reducible apply G.unw); rfl) | ((with_reducible apply G.unw0); rfl)
       | ((with_reducible apply G.boxa); rfl; rfl; intro b) | ((with_reducible apply G.box); rfl; rfl; intro b) | ((with_reducible apply G.alloc); rfl; rfl; rfl; intro b)
       | ((with_reducible apply G.store); rfl; rfl; rfl; rfl; rfl; rfl; (focus (repeat (first | assumption | exact Rem.here | apply Rem.there | apply Rem.oH))); (exact Nat.le_of_ble_eq_true rfl); (focus (repeat (first | exact StOk.nil | (refine StOk.keep ?_ ?_; (focus ((repeat (first | exact List.Mem.head _ | assumption | apply List.Mem.tail | apply mem_oH)); done))) | refine StOk.gone (by kernel_rfl) ?_))); rfl)
       | ((with_reducible apply G.build); rfl; rfl; rfl) | ((with_reducible apply G.eqs); rfl; rfl; rfl; rfl; (kernel_rfl); (kernel_rfl)) | ((with_reducible apply G.nes); rfl; rfl; rfl; rfl; (kernel_rfl); (kernel_rfl))
       | ((with_reducible apply G.num); rfl; rfl; rfl; rfl; rfl; (first | with_reducible exact shl8 _ (by omega) (by omega) | with_reducible exact shl16 _ (by omega) (by omega) | with_reducible exact or8 (by omega) (by omega) (by omega) (by omega) | with_reducible exact or16 (by omega) (by omega) (by omega) (by omega) | with_reducible exact or24 (by omega) (by omega) (by omega) (by omega) (by omega) (by omega) | with_reducible exact i64_in _ (by omega) (by omega) | with_reducible exact wrap8_in _ (by omega) (by omega) | with_reducible exact u64_in _ (by omega) (by omega) | with_reducible exact shr16 _ | with_reducible exact shr8 _ | with_reducible exact wrap8_mod _))
       | ((with_reducible apply G.pure); rfl; rfl; rfl; rfl; rfl)
       | ((with_reducible apply G.known true); rfl; rfl; rfl; (focus (first | rfl | exact decide_eq_true (by omega) | exact decide_eq_false (by omega) | (rw [bne_eq_false_iff_eq]; omega)))) | ((with_reducible apply G.known false); rfl; rfl; rfl; (focus (first | rfl | exact decide_eq_true (by omega) | exact decide_eq_false (by omega) | (rw [bne_eq_false_iff_eq]; omega))))
       | ((with_reducible apply G.split); rfl; rfl; rfl; all_goals (intro h; first | replace h := beq_t h | replace h := beq_f h | replace h := bne_t h | replace h := bne_f h | replace h := of_decide_eq_true h | replace h := of_decide_eq_false h | skip)))
    | with_reducible apply RG.done | with_reducible apply Q.tn | with_reducible apply Q.tr | with_reducible apply Q.te | with_reducible apply Q.bn | with_reducible apply Q.br | with_reducible apply Q.be | ((with_reducible apply Q.bx); decide) | with_reducible apply Q.tp | with_reducible apply Q.bp
    | with_reducible apply SW.seq | with_reducible apply SW.block | with_reducible apply SW.ret | with_reducible apply SW.skip | with_reducible apply SW.exit
    | ((with_reducible apply SW.cond1); rfl; (focus (first | rfl | exact decide_eq_true (by omega) | exact decide_eq_false (by omega) | (rw [bne_eq_false_iff_eq]; omega)))) | ((with_reducible apply SW.cond0); rfl; (focus (first | rfl | exact decide_eq_true (by omega) | exact decide_eq_false (by omega) | (rw [bne_eq_false_iff_eq]; omega))))
    | ((with_reducible apply SW.cond); rfl; all_goals (intro h; first | replace h := beq_t h | replace h := beq_f h | replace h := bne_t h | replace h := bne_f h | replace h := of_decide_eq_true h | replace h := of_decide_eq_false h | skip))
    | ((with_reducible apply SW.region0); kernel_rfl; rfl))
  all_goals ((apply Q.ret (.cons (by first | exact .tmp rfl | exact .cell rfl (by repeat (first | exact List.Mem.head _ | apply List.Mem.tail)) rfl) .nil)); (case' h3 => first | (apply nextR_n1; assumption) | (apply nextR_n2; omega) | (apply nextR_n3; omega) | (apply nextR_n4 <;> assumption) | (apply nextR_s8 <;> assumption) | (apply nextR_sn <;> assumption)); all_goals (focus (repeat (first | exact Rems.all | exact Rems.nil | (apply Rems.own; (focus (repeat (first | exact OIn.here | apply OIn.there | apply OIn.over)))) | (apply Rems.cons; (focus (repeat (first | assumption | exact Rem.here | apply Rem.there | apply Rem.oH)))) | apply Rems.skip | apply Rems.oskip))))
set_option maxHeartbeats 4000000 in
set_option maxRecDepth 4000 in
theorem rnext_oc (H : Hp) (a : Option Addr) (c : Nat) (l : List IV) (p : Int) (hp : I64 p) (hs : Has H a (cellsI l)) : OC Try.prog 18 #[.slice a l.length c, .int .i64 p] H (NextR l p H) := by
  obtain ⟨hp1, hp2⟩ := hp
  have h64 : (chk l).1 = 0 → l.length ≤ 64 := fun h => (chk_ok h).2.1
  by_cases hat : 0 ≤ p ∧ p < l.length
  case' pos => (obtain ⟨x, hx⟩ : ∃ x, l[p.toNat]? = some x := ⟨_, List.getElem?_eq_getElem (by omega)⟩; have hne := cellsI_ne hx; have ha := hs.isa hne; have e31 := cellsI_31 hx; have e29 := cellsI_29 hx; have e3 := cellsI_3 hx)
  all_goals (try unfold RC)
  all_goals (try unfold DC)
  all_goals refine OC.of_sw Try.func18 rfl Try.ntmps18 (Nat.le_of_ble_eq_true rfl) fun C => ?_
  repeat' (first
    | ((with_reducible apply G.at); rfl; first
       | ((with_reducible apply G.move); rfl; rfl) | ((with_reducible apply G.assign); rfl; rfl)
       | ((with_reducible apply G.load0); rfl; rfl; (focus (repeat (first | exact List.Mem.head _ | assumption | apply List.Mem.tail | apply mem_oH))); rfl) | ((with_reducible apply G.load1); rfl; rfl; (focus (repeat (first | exact List.Mem.head _ | assumption | apply List.Mem.tail | apply mem_oH))); rfl)
       | ((with_reducible apply G.loadS0); rfl; rfl; (focus (repeat (first | assumption | exact Has.row (List.Mem.head _) | (apply Has.mine; assumption) | apply Has.tail | apply Has.oH | exact Has.nil))); assumption; (first | assumption | rfl)) | ((with_reducible apply G.loadS1); rfl; rfl; (first | assumption | exact Has.row (List.Mem.head _)); (focus (intro p hp; repeat (first | assumption | apply List.Mem.tail | apply mem_oH))); assumption; (first | assumption | rfl); intro _ _ _)
       | ((with_reducible apply G.faddrh (k := 0)); rfl; rfl; rfl) | ((with_reducible apply G.faddrh (k := 1)); rfl; rfl; rfl) | ((with_reducible apply G.faddrh (k := 2)); rfl; rfl; rfl) | ((with_reducible apply G.faddrh (k := 3)); rfl; rfl; rfl) | ((with_reducible apply G.faddrh (k := 4)); rfl; rfl; rfl) | ((with_reducible apply G.faddrh (k := 5)); rfl; rfl; rfl) | ((with_reducible apply G.faddrh (k := 6)); rfl; rfl; rfl) | ((with_reducible apply G.faddrh (k := 7)); rfl; rfl; rfl)
       | ((with_reducible apply G.faddrS (d := 0)); rfl; rfl; rfl; assumption) | ((with_reducible apply G.faddrS (d := 1)); rfl; rfl; rfl; assumption) | ((with_reducible apply G.faddrS (d := 2)); rfl; rfl; rfl; assumption) | ((with_reducible apply G.faddrS (d := 3)); rfl; rfl; rfl; assumption) | ((with_reducible apply G.faddrS (d := 4)); rfl; rfl; rfl; assumption) | ((with_reducible apply G.faddrS (d := 5)); rfl; rfl; rfl; assumption) | ((with_reducible apply G.faddrS (d := 6)); rfl; rfl; rfl; assumption) | ((with_reducible apply G.faddrS (d := 7)); rfl; rfl; rfl; assumption)
       | ((with_reducible apply G.iaddrS (size := 2) (j := p.toNat)); rfl; rfl; rfl; rfl; assumption; (first | rfl | omega); (first | assumption | omega))
       | ((with_reducible apply G.bslice); rfl; rfl; intro b)
       | ((with_reducible apply G.rcall (f := 14)); rfl; rfl; exact Try.call14; (exact rcheck_rc _ _ _ _ (by assumption)); (focus (repeat (first | exact StOk.nil | (refine StOk.keep ?_ ?_; (focus ((repeat (first | exact List.Mem.head _ | assumption | apply List.Mem.tail | apply mem_oH)); done))) | refine StOk.gone (by kernel_rfl) ?_))))
       | ((with_reducible apply G.nilck); rfl; rfl) | ((with_reducible apply G.extract); rfl; rfl; rfl) | ((with_reducible apply G.len); rfl; rfl; rfl) | ((with_reducible apply G.pick1); rfl; rfl; rfl) | ((with_reducible apply G.pick0); rfl; rfl; rfl) | ((with_reducible apply G.unw); rfl) | ((with_reducible apply G.unw0); rfl)
       | ((with_reducible apply G.boxa); rfl; rfl; intro b) | ((with_reducible apply G.box); rfl; rfl; intro b) | ((with_reducible apply G.alloc); rfl; rfl; rfl; intro b)
       | ((with_reducible apply G.store); rfl; rfl; rfl; rfl; rfl; rfl; (focus (repeat (first | assumption | exact Rem.here | apply Rem.there | apply Rem.oH))); (exact Nat.le_of_ble_eq_true rfl); (focus (repeat (first | exact StOk.nil | (refine StOk.keep ?_ ?_; (focus ((repeat (first | exact List.Mem.head _ | assumption | apply List.Mem.tail | apply mem_oH)); done))) | refine StOk.gone (by kernel_rfl) ?_))); rfl)
       | ((with_reducible apply G.build); rfl; rfl; rfl) | ((with_reducible apply G.eqs); rfl; rfl; rfl; rfl; (kernel_rfl); (kernel_rfl)) | ((with_reducible apply G.nes); rfl; rfl; rfl; rfl; (kernel_rfl); (kernel_rfl))
       | ((with_reducible apply G.num); rfl; rfl; rfl; rfl; rfl; (first | with_reducible exact shl8 _ (by omega) (by omega) | with_reducible exact shl16 _ (by omega) (by omega) | with_reducible exact or8 (by omega) (by omega) (by omega) (by omega) | with_reducible exact or16 (by omega) (by omega) (by omega) (by omega) | with_reducible exact or24 (by omega) (by omega) (by omega) (by omega) (by omega) (by omega) | with_reducible exact i64_in _ (by omega) (by omega) | with_reducible exact wrap8_in _ (by omega) (by omega) | with_reducible exact u64_in _ (by omega) (by omega) | with_reducible exact shr16 _ | with_reducible exact shr8 _ | with_reducible exact wrap8_mod _))
       | ((with_reducible apply G.pure); rfl; rfl; rfl; rfl; rfl)
       | ((with_reducible apply G.known true); rfl; rfl; rfl; (focus (first | rfl | exact decide_eq_true (by omega) | exact decide_eq_false (by omega) | (rw [bne_eq_false_iff_eq]; omega)))) | ((with_reducible apply G.known false); rfl; rfl; rfl; (focus (first | rfl | exact decide_eq_true (by omega) | exact decide_eq_false (by omega) | (rw [bne_eq_false_iff_eq]; omega))))
       | ((with_reducible apply G.split); rfl; rfl; rfl; all_goals (intro h; first | replace h := beq_t h | replace h := beq_f h | replace h := bne_t h | replace h := bne_f h | replace h := of_decide_eq_true h | replace h := of_decide_eq_false h | skip)))
    | with_reducible apply RG.done | with_reducible apply Q.tn | with_reducible apply Q.tr | with_reducible apply Q.te | with_reducible apply Q.bn | with_reducible apply Q.br | with_reducible apply Q.be | ((with_reducible apply Q.bx); decide) | with_reducible apply Q.tp | with_reducible apply Q.bp
    | with_reducible apply SW.seq | with_reducible apply SW.block | with_reducible apply SW.ret | with_reducible apply SW.skip | with_reducible apply SW.exit
    | ((with_reducible apply SW.cond1); rfl; (focus (first | rfl | exact decide_eq_true (by omega) | exact decide_eq_false (by omega) | (rw [bne_eq_false_iff_eq]; omega)))) | ((with_reducible apply SW.cond0); rfl; (focus (first | rfl | exact decide_eq_true (by omega) | exact decide_eq_false (by omega) | (rw [bne_eq_false_iff_eq]; omega))))
    | ((with_reducible apply SW.cond); rfl; all_goals (intro h; first | replace h := beq_t h | replace h := beq_f h | replace h := bne_t h | replace h := bne_f h | replace h := of_decide_eq_true h | replace h := of_decide_eq_false h | skip))
    | ((with_reducible apply SW.region0); kernel_rfl; rfl))
  all_goals ((apply Q.ret (.cons (by first | exact .tmp rfl | exact .cell rfl (by repeat (first | exact List.Mem.head _ | apply List.Mem.tail)) rfl) .nil)); (case' h3 => first | (apply nextR_n1; assumption) | (apply nextR_n2; omega) | (apply nextR_n3; omega) | (apply nextR_n4 <;> assumption) | (apply nextR_s8 <;> assumption) | (apply nextR_sn <;> assumption)); all_goals (focus (repeat (first | exact Rems.all | exact Rems.nil | (apply Rems.own; (focus (repeat (first | exact OIn.here | apply OIn.there | apply OIn.over)))) | (apply Rems.cons; (focus (repeat (first | assumption | exact Rem.here | apply Rem.there | apply Rem.oH)))) | apply Rems.skip | apply Rems.oskip))))

theorem same_nil (H : Hp) : RC Try.prog 16 #[.slice none 0 0, .slice none 0 0] H (.bool true) := same_rc H none none 0 0 [] [] (by decide) .nil .nil
theorem same_one {H : Hp} {a b : Option Addr} {c d : Nat} {v : Int} (h1 : Has H a [.int .i64 v]) (h2 : Has H b [.int .i64 v]) : RC Try.prog 16 #[.slice a 1 c, .slice b 1 d] H (.bool true) := by
  have := same_rc H a b c d [v] [v] (by simp) h1 h2
  rw [decide_eq_true rfl] at this; exact this

end Go.Proofs.Ytjgilhbponfaaaa
