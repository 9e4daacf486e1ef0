/- Contracts of what turns servers. -/
import Derived.Test.YtoeomoaelfnihaaK2
namespace Go.Proofs.Ytoeomoaelfnihaa
open Go Go.RowKit Bw
set_option linter.unusedSimpArgs false
set_option linter.unusedVariables false
attribute [local irreducible] OC RC DC XC


def wakS (s : Svs) (i now : Int) : Svs := match getS s.l i with
  | some x => if x.aw = false ∨ x.dl ≤ now then ⟨s.room, s.sum, s.l.set i.toNat (fillS x now)⟩ else s
  | none => s
def wakE (s : Svs) (i : Int) : Int := if 0 ≤ i ∧ i < s.l.length then 0 else 2
def chaE (s : Svs) (i : Int) : Int := match getS s.l i with
  | some x => if x.left = 0 then 6 else 0
  | none => 2
def chaB (s : Svs) (i : Int) : Bool := match getS s.l i with
  | some x => if x.left = 0 then false else (x.left - 1 == 0)
  | none => false
def chaS (s : Svs) (i : Int) : Svs := match getS s.l i with
  | some x => if x.left = 0 then s else ⟨s.room, s.sum, s.l.set i.toNat { x with left := x.left - 1 }⟩
  | none => s
theorem set_ok {s : Svs} (hs : s.ok) {j : Nat} {x' : Srv} (hx : x'.ok) : (⟨s.room, s.sum, s.l.set j x'⟩ : Svs).ok := by
  refine ⟨hs.room1, hs.sum0, hs.sum1, by simpa using hs.len, fun y hy => ?_⟩
  rcases List.mem_or_eq_of_mem_set hy with h | h
  · exact hs.each y h
  · rw [h]; exact hx
theorem getS_mem {l : List Srv} {i : Int} {x : Srv} (h : getS l i = some x) : x ∈ l ∧ 0 ≤ i ∧ i < l.length ∧ l[i.toNat]? = some x := by
  unfold getS at h
  split at h
  · rename_i hi; exact ⟨List.mem_of_getElem? h, hi.1, hi.2, h⟩
  · cases h
theorem fillS_ok {x : Srv} {now : Int} (hx : x.ok) (hn : U64 now) : (fillS x now).ok := by
  obtain ⟨h1, h2, h3, h4, h5, h6, h7⟩ := hx
  have := sat_rng hn (b := x.p) ⟨by omega, by omega⟩
  refine ⟨h1, h2, h3, ?_, ?_, this.1, this.2⟩ <;> (dsimp only [fillS]; omega)
theorem wakS_ok {s : Svs} {i now : Int} (hs : s.ok) (hn : U64 now) : (wakS s i now).ok := by
  unfold wakS
  split
  · rename_i x h
    split
    · exact set_ok hs (fillS_ok (hs.each x (getS_mem h).1) hn)
    · exact hs
  · exact hs
theorem chaS_ok {s : Svs} {i : Int} (hs : s.ok) : (chaS s i).ok := by
  unfold chaS
  split
  · rename_i x h
    have hx := hs.each x (getS_mem h).1
    split
    · exact hs
    · obtain ⟨h1, h2, h3, h4, h5, h6, h7⟩ := hx
      refine set_ok hs ⟨h1, h2, h3, ?_, ?_, h6, h7⟩ <;> (dsimp only; omega)
  · exact hs
theorem set_get {l : List Srv} {j : Nat} {x y : Srv} (hx : l[j]? = some x) : (l.set j y)[j]? = some y := List.getElem?_set_self (List.getElem?_eq_some_iff.1 hx).1

set_option maxHeartbeats 4000000 in
set_option maxRecDepth 4000 in
theorem fill_oc (l : List Srv) (v : Own) (j : Nat) (x : Srv) (now : Int) (F : Hp) (hj : j < l.length) (hx : l[j]? = some x) (hv : OOk 5 v l.length (cellsV l)) (hk : x.ok) (hn : U64 now) : OC Try.prog 35 #[ptrAt (oA v) (j * 5), .int .u64 now] (oH 73 v (cellsV l) F) (fun u H' => H' = oH 73 v (cellsV (l.set j (fillS x now))) F) := by
  obtain ⟨bb, cc, rr, rfl⟩ := hv.isSome (by omega)
  have ha := hv.isa (by omega)
  have hlen := cellsV_len l
  obtain ⟨r1, r2, r3, r4, r5, r6, r7⟩ := hk
  have hne := v_ne hx
  have hs := Has.mine (e := 73) (H := F) hv
  have xb := v_b hx
  have xp := v_p hx
  have hn2 := hn
  have hadd := add_dc now x.p hn ⟨by omega, by omega⟩
  have s1 := set_left x.b hx
  have x1 := set_get (y := { x with left := x.b }) hx
  have s2 := set_dl (sat now x.p) x1
  have x2 := set_get (y := { x with left := x.b, dl := sat now x.p }) x1
  have s3 := set_aw true x2
  simp only [List.set_set] at s2 s3
  have hl : ∀ y, (cellsV (l.set j y)).length = l.length * 5 := fun y => by rw [flat_len_set srvC srvC_len]; exact hlen
  all_goals (try unfold RC)
  all_goals (try unfold DC)
  all_goals refine OC.of_sw Try.func35 rfl Try.ntmps35 (Nat.le_of_ble_eq_true rfl) fun C => ?_
  repeat' (first
    | ((with_reducible apply G.at); rfl; first
       | ((with_reducible apply G.move); rfl; rfl) | ((with_reducible apply G.assign); rfl; rfl)
       | ((with_reducible apply G.load0); rfl; rfl; (focus (repeat (first | exact List.Mem.head _ | assumption | apply List.Mem.tail | apply mem_oH))); rfl) | ((with_reducible apply G.load1); rfl; rfl; (focus (repeat (first | exact List.Mem.head _ | assumption | apply List.Mem.tail | apply mem_oH))); rfl)
       | ((with_reducible apply G.loadS0); rfl; rfl; (focus (repeat (first | assumption | exact Has.row (List.Mem.head _) | (apply Has.mine; assumption) | apply Has.tail | apply Has.oH | exact Has.nil))); assumption; (first | assumption | rfl)) | ((with_reducible apply G.loadS1); rfl; rfl; (first | assumption | exact Has.row (List.Mem.head _)); (focus (intro p hp; repeat (first | assumption | apply List.Mem.tail | apply mem_oH))); assumption; (first | assumption | rfl); intro _ _ _)
       | ((with_reducible apply G.faddrh (k := 0)); rfl; rfl; rfl) | ((with_reducible apply G.faddrh (k := 1)); rfl; rfl; rfl) | ((with_reducible apply G.faddrh (k := 2)); rfl; rfl; rfl) | ((with_reducible apply G.faddrh (k := 3)); rfl; rfl; rfl) | ((with_reducible apply G.faddrh (k := 4)); rfl; rfl; rfl) | ((with_reducible apply G.faddrh (k := 5)); rfl; rfl; rfl) | ((with_reducible apply G.faddrh (k := 6)); rfl; rfl; rfl) | ((with_reducible apply G.faddrh (k := 7)); rfl; rfl; rfl)
       | ((with_reducible apply G.faddrS (d := 0)); rfl; rfl; rfl; assumption) | ((with_reducible apply G.faddrS (d := 1)); rfl; rfl; rfl; assumption) | ((with_reducible apply G.faddrS (d := 2)); rfl; rfl; rfl; assumption) | ((with_reducible apply G.faddrS (d := 3)); rfl; rfl; rfl; assumption) | ((with_reducible apply G.faddrS (d := 4)); rfl; rfl; rfl; assumption) | ((with_reducible apply G.faddrS (d := 5)); rfl; rfl; rfl; assumption) | ((with_reducible apply G.faddrS (d := 6)); rfl; rfl; rfl; assumption) | ((with_reducible apply G.faddrS (d := 7)); rfl; rfl; rfl; assumption)
       | ((with_reducible apply G.nilckS); rfl; rfl; assumption)
       | ((with_reducible apply G.storeO (n := 1)); rfl; rfl; rfl; rfl; rfl; rfl; (focus (repeat (first | exact OIn.here | apply OIn.there | apply OIn.over))); assumption; (focus (first | omega | (rw [hl]; omega))); (focus (first | exact s1 | exact s2 | exact s3)); (focus (repeat (first | exact StOk.nil | (refine StOk.keep ?_ ?_; (focus ((repeat (first | exact List.Mem.head _ | assumption | apply List.Mem.tail | apply mem_oH)); done))) | refine StOk.gone (by kernel_rfl) ?_))))
       | ((with_reducible apply G.dcall (f := 49)); rfl; rfl; exact Try.call49; exact hadd)
       | ((with_reducible apply G.nilck); rfl; rfl) | ((with_reducible apply G.extract); rfl; rfl; rfl) | ((with_reducible apply G.len); rfl; rfl; rfl) | ((with_reducible apply G.pick1); rfl; rfl; rfl) | ((with_reducible apply G.pick0); rfl; rfl; rfl) | ((with_reducible apply G.unw); rfl) | ((with_reducible apply G.unw0); rfl)
       | ((with_reducible apply G.boxa); rfl; rfl; intro b) | ((with_reducible apply G.box); rfl; rfl; intro b) | ((with_reducible apply G.alloc); rfl; rfl; rfl; intro b)
       | ((with_reducible apply G.store); rfl; rfl; rfl; rfl; rfl; rfl; (focus (repeat (first | assumption | exact Rem.here | apply Rem.there | apply Rem.oH))); (exact Nat.le_of_ble_eq_true rfl); (focus (repeat (first | exact StOk.nil | (refine StOk.keep ?_ ?_; (focus ((repeat (first | exact List.Mem.head _ | assumption | apply List.Mem.tail | apply mem_oH)); done))) | refine StOk.gone (by kernel_rfl) ?_))); rfl)
       | ((with_reducible apply G.build); rfl; rfl; rfl) | ((with_reducible apply G.eqs); rfl; rfl; rfl; rfl; (kernel_rfl); (kernel_rfl)) | ((with_reducible apply G.nes); rfl; rfl; rfl; rfl; (kernel_rfl); (kernel_rfl))
       | ((with_reducible apply G.num); rfl; rfl; rfl; rfl; rfl; (first | ((with_reducible apply shl8); omega; omega) | ((with_reducible apply shl16); omega; omega) | ((with_reducible apply or8); omega; omega; omega; omega) | ((with_reducible apply or16); omega; omega; omega; omega) | ((with_reducible apply or24); omega; omega; omega; omega; omega; omega) | ((with_reducible apply i64_in); omega; omega) | ((with_reducible apply wrap8_in); omega; omega) | ((with_reducible apply u64_in); omega; omega) | with_reducible exact shr16 _ | with_reducible exact shr8 _ | with_reducible exact wrap8_mod _ | with_reducible exact shr32u _ | ((with_reducible apply and32u); omega; omega) | with_reducible exact wrap64_mod _))
       | ((with_reducible apply G.min2); rfl; rfl; rfl; (first | (apply if_pos; omega) | (apply if_neg; omega) | rfl)) | ((with_reducible apply G.max2); rfl; rfl; rfl; (first | (apply if_pos; omega) | (apply if_neg; omega) | rfl))
       | ((with_reducible apply G.pure); rfl; rfl; rfl; rfl; rfl)
       | ((with_reducible apply G.known true); rfl; rfl; rfl; (focus (first | with_reducible rfl | ((with_reducible apply decide_eq_true); omega) | ((with_reducible apply decide_eq_false); omega) | ((with_reducible apply beq_iff_eq.2); omega) | ((with_reducible apply beq_eq_false_iff_ne.2); omega) | ((with_reducible apply bne_iff_ne.2); omega) | ((with_reducible apply bne_eq_false_iff_eq.2); omega) | (simp; done)))) | ((with_reducible apply G.known false); rfl; rfl; rfl; (focus (first | with_reducible rfl | ((with_reducible apply decide_eq_true); omega) | ((with_reducible apply decide_eq_false); omega) | ((with_reducible apply beq_iff_eq.2); omega) | ((with_reducible apply beq_eq_false_iff_ne.2); omega) | ((with_reducible apply bne_iff_ne.2); omega) | ((with_reducible apply bne_eq_false_iff_eq.2); omega) | (simp; done))))
       | ((with_reducible apply G.split); rfl; rfl; rfl; all_goals (intro h; first | replace h := beq_t h | replace h := beq_f h | replace h := bne_t h | replace h := bne_f h | replace h := of_decide_eq_true h | replace h := of_decide_eq_false h | skip)))
    | with_reducible apply RG.done | with_reducible apply Q.tn | with_reducible apply Q.tr | with_reducible apply Q.te | with_reducible apply Q.bn | with_reducible apply Q.br | with_reducible apply Q.be | ((with_reducible apply Q.bx); decide) | with_reducible apply Q.tp | with_reducible apply Q.bp
    | with_reducible apply SW.seq | with_reducible apply SW.block | with_reducible apply SW.ret | with_reducible apply SW.skip | with_reducible apply SW.exit
    | ((with_reducible apply SW.cond1); rfl; (focus (first | with_reducible rfl | ((with_reducible apply decide_eq_true); omega) | ((with_reducible apply decide_eq_false); omega) | ((with_reducible apply beq_iff_eq.2); omega) | ((with_reducible apply beq_eq_false_iff_ne.2); omega) | ((with_reducible apply bne_iff_ne.2); omega) | ((with_reducible apply bne_eq_false_iff_eq.2); omega) | (simp; done)))) | ((with_reducible apply SW.cond0); rfl; (focus (first | with_reducible rfl | ((with_reducible apply decide_eq_true); omega) | ((with_reducible apply decide_eq_false); omega) | ((with_reducible apply beq_iff_eq.2); omega) | ((with_reducible apply beq_eq_false_iff_ne.2); omega) | ((with_reducible apply bne_iff_ne.2); omega) | ((with_reducible apply bne_eq_false_iff_eq.2); omega) | (simp; done))))
    | ((with_reducible apply SW.cond); rfl; all_goals (intro h; first | replace h := beq_t h | replace h := beq_f h | replace h := bne_t h | replace h := bne_f h | replace h := of_decide_eq_true h | replace h := of_decide_eq_false h | skip))
    | ((with_reducible apply SW.region0); kernel_rfl; rfl)
    | ((with_reducible apply SW.region1 (id := 0) [0, 1, 2, 3, 4, 5, 6, 7, 8, 9, 10, 11, 12, 13, 14, 15, 16, 17, 18, 19, 20, 21, 22, 23]); rfl; kernel_rfl))
  all_goals ((apply Q.fall .nil); (focus (repeat (first | exact Rems.all | exact Rems.nil | (apply Rems.own; (focus (repeat (first | exact OIn.here | apply OIn.there | apply OIn.over)))) | (apply Rems.cons; (focus (repeat (first | assumption | exact Rem.here | apply Rem.there | apply Rem.oH)))) | apply Rems.skip | apply Rems.oskip))); rfl)

theorem sv_set (b : Nat) (s : Svs) (j : Nat) (y : Srv) (v : Own) (F : Hp) : (b, svR s v) :: oH 73 v (cellsV (s.l.set j y)) F = svH b ⟨s.room, s.sum, s.l.set j y⟩ v F := by
  simp only [svH, svR, List.length_set]
theorem OOk_set {v : Own} {s : Svs} (h : OOk 5 v s.l.length (cellsV s.l)) (j : Nat) (y : Srv) : OOk 5 v (s.l.set j y).length (cellsV (s.l.set j y)) := by
  rw [List.length_set]; exact OOk_put h j y
theorem getS_wak {s : Svs} {j : Nat} {x : Srv} {now : Int} (hj : j < s.l.length) (hx : s.l[j]? = some x) : wakS s (j : Nat) now = if x.aw = false ∨ x.dl ≤ now then ⟨s.room, s.sum, s.l.set j (fillS x now)⟩ else s := by unfold wakS; rw [getS_in hj hx]; rfl
theorem wakS_out {s : Svs} {i now : Int} (h : ¬ (0 ≤ i ∧ i < s.l.length)) : wakS s i now = s := by unfold wakS; rw [getS_out h]
theorem cha_out {s : Svs} {i : Int} (h : ¬ (0 ≤ i ∧ i < s.l.length)) : chaE s i = 2 ∧ chaB s i = false ∧ chaS s i = s := by unfold chaE chaB chaS; rw [getS_out h]; exact ⟨rfl, rfl, rfl⟩
theorem cha_zero {s : Svs} {j : Nat} {x : Srv} (hj : j < s.l.length) (hx : s.l[j]? = some x) (h0 : x.left = 0) : chaE s (j : Nat) = 6 ∧ chaB s (j : Nat) = false ∧ chaS s (j : Nat) = s := by unfold chaE chaB chaS; rw [getS_in hj hx]; dsimp only; rw [if_pos h0, if_pos h0, if_pos h0]; exact ⟨rfl, rfl, rfl⟩
theorem cha_in {s : Svs} {j : Nat} {x : Srv} (hj : j < s.l.length) (hx : s.l[j]? = some x) (h0 : ¬ x.left = 0) : chaE s (j : Nat) = 0 ∧ chaB s (j : Nat) = (x.left - 1 == 0) ∧ chaS s (j : Nat) = ⟨s.room, s.sum, s.l.set j { x with left := x.left - 1 }⟩ := by unfold chaE chaB chaS; rw [getS_in hj hx]; dsimp only; rw [if_neg h0, if_neg h0, if_neg h0]; exact ⟨rfl, rfl, rfl⟩

set_option maxHeartbeats 4000000 in
set_option maxRecDepth 4000 in
theorem wake_oc (s : Svs) (v : Own) (b : Nat) (i now : Int) (F : Hp) (ho : s.ok) (hv : OOk 5 v s.l.length (cellsV s.l)) (hn : U64 now) : OC Try.prog 19 #[.pointer (some ⟨b, 0, none⟩), .int .i64 i, .int .u64 now] (svH b s v F) (fun u H' => u = .int .i64 (wakE s i) ∧ H' = svH b (wakS s i now) v F ∧ OOk 5 v (wakS s i now).l.length (cellsV (wakS s i now).l)) := by
  have hmay := fun (G0 : Hp) (h0 : (b, svR s v) ∈ G0) (h1 : Has G0 (oA v) (cellsV s.l)) => may_rc G0 b s v h0 hv h1 i
  have hE : wakE s i = if 0 ≤ i ∧ i < s.l.length then 0 else 2 := rfl
  by_cases hin : 0 ≤ i ∧ i < s.l.length
  all_goals first | simp only [if_pos hin] at hmay hE | simp only [if_neg hin] at hmay hE
  case' pos => (obtain ⟨j, x, rfl, hj, hx⟩ := getV hin; obtain ⟨bb, cc, rr, rfl⟩ := hv.isSome (by omega); have ha := hv.isa (by omega); have hat := fun (G0 : Hp) (h0 : (b, svR s (some (bb, cc, rr))) ∈ G0) => at_in G0 b s _ h0 hv j hj; have hne := v_ne hx; have xb := v_b hx; have xp := v_p hx; have xl := v_left hx; have xd := v_dl hx; have xa := v_aw hx)
  case' neg => have hat := fun (G0 : Hp) (h0 : (b, svR s v) ∈ G0) => at_out G0 b s v h0 i hin
  case' neg => rw [hE, wakS_out hin]
  case' pos => (have hk := ho.each x (List.mem_of_getElem? hx); rw [hE, getS_wak hj hx]; by_cases h1 : x.aw = false; (case' pos => rw [if_pos (.inl h1)]); (case' neg => (by_cases h2 : x.dl ≤ now; (case' pos => rw [if_pos (.inr h2)]); (case' neg => rw [if_neg (fun h => h.elim h1 h2)]))))
  all_goals (try unfold RC)
  all_goals (try unfold DC)
  all_goals refine OC.of_sw Try.func19 rfl Try.ntmps19 (Nat.le_of_ble_eq_true rfl) fun C => ?_
  repeat' (first
    | ((with_reducible apply G.at); rfl; first
       | ((with_reducible apply G.move); rfl; rfl) | ((with_reducible apply G.assign); rfl; rfl)
       | ((with_reducible apply G.load0); rfl; rfl; (focus (repeat (first | exact List.Mem.head _ | assumption | apply List.Mem.tail | apply mem_oH))); rfl) | ((with_reducible apply G.load1); rfl; rfl; (focus (repeat (first | exact List.Mem.head _ | assumption | apply List.Mem.tail | apply mem_oH))); rfl)
       | ((with_reducible apply G.loadS0); rfl; rfl; (focus (repeat (first | assumption | exact Has.row (List.Mem.head _) | (apply Has.mine; assumption) | apply Has.tail | apply Has.oH | exact Has.nil))); assumption; (first | assumption | rfl)) | ((with_reducible apply G.loadS1); rfl; rfl; (first | assumption | exact Has.row (List.Mem.head _)); (focus (intro p hp; repeat (first | assumption | apply List.Mem.tail | apply mem_oH))); assumption; (first | assumption | rfl); intro _ _ _)
       | ((with_reducible apply G.faddrh (k := 0)); rfl; rfl; rfl) | ((with_reducible apply G.faddrh (k := 1)); rfl; rfl; rfl) | ((with_reducible apply G.faddrh (k := 2)); rfl; rfl; rfl) | ((with_reducible apply G.faddrh (k := 3)); rfl; rfl; rfl) | ((with_reducible apply G.faddrh (k := 4)); rfl; rfl; rfl) | ((with_reducible apply G.faddrh (k := 5)); rfl; rfl; rfl) | ((with_reducible apply G.faddrh (k := 6)); rfl; rfl; rfl) | ((with_reducible apply G.faddrh (k := 7)); rfl; rfl; rfl)
       | ((with_reducible apply G.faddrS (d := 0)); rfl; rfl; rfl; assumption) | ((with_reducible apply G.faddrS (d := 1)); rfl; rfl; rfl; assumption) | ((with_reducible apply G.faddrS (d := 2)); rfl; rfl; rfl; assumption) | ((with_reducible apply G.faddrS (d := 3)); rfl; rfl; rfl; assumption) | ((with_reducible apply G.faddrS (d := 4)); rfl; rfl; rfl; assumption) | ((with_reducible apply G.faddrS (d := 5)); rfl; rfl; rfl; assumption) | ((with_reducible apply G.faddrS (d := 6)); rfl; rfl; rfl; assumption) | ((with_reducible apply G.faddrS (d := 7)); rfl; rfl; rfl; assumption)
       | ((with_reducible apply G.nilckS); rfl; rfl; assumption)
       | ((with_reducible apply G.pnil); rfl; rfl; rfl; assumption; exact fun _ _ => rfl)
       | ((with_reducible apply G.rcall (f := 34)); rfl; rfl; exact Try.call34; ((apply hat); (focus (repeat (first | exact List.Mem.head _ | assumption | apply List.Mem.tail | apply mem_oH)))); (focus (repeat (first | exact StOk.nil | (refine StOk.keep ?_ ?_; (focus ((repeat (first | exact List.Mem.head _ | assumption | apply List.Mem.tail | apply mem_oH)); done))) | refine StOk.gone (by kernel_rfl) ?_))))
       | ((with_reducible apply G.rcall (f := 33)); rfl; rfl; exact Try.call33; ((apply hmay); (focus (repeat (first | exact List.Mem.head _ | assumption | apply List.Mem.tail | apply mem_oH))); (focus (repeat (first | assumption | exact Has.row (List.Mem.head _) | (apply Has.mine; assumption) | apply Has.tail | apply Has.oH | exact Has.nil)))); (focus (repeat (first | exact StOk.nil | (refine StOk.keep ?_ ?_; (focus ((repeat (first | exact List.Mem.head _ | assumption | apply List.Mem.tail | apply mem_oH)); done))) | refine StOk.gone (by kernel_rfl) ?_))))
       | ((with_reducible apply G.gcall (f := 35)); rfl; rfl; exact Try.call35; ((apply fill_oc (l := s.l) (x := x)); rotate_left; assumption; assumption; assumption; assumption; assumption); (focus (repeat (first | exact Pick.rest | ((with_reducible apply Pick.own); (focus (repeat (first | exact OIn.here | apply OIn.there | apply OIn.over)))) | ((with_reducible apply Pick.cons); (focus (repeat (first | assumption | exact Rem.here | apply Rem.there | apply Rem.oH))))))); (rintro _ _ rfl; exact StOk.nil); (rintro _ _ rfl))
       | ((with_reducible apply G.nilck); rfl; rfl) | ((with_reducible apply G.extract); rfl; rfl; rfl) | ((with_reducible apply G.len); rfl; rfl; rfl) | ((with_reducible apply G.pick1); rfl; rfl; rfl) | ((with_reducible apply G.pick0); rfl; rfl; rfl) | ((with_reducible apply G.unw); rfl) | ((with_reducible apply G.unw0); rfl)
       | ((with_reducible apply G.boxa); rfl; rfl; intro b) | ((with_reducible apply G.box); rfl; rfl; intro b) | ((with_reducible apply G.alloc); rfl; rfl; rfl; intro b)
       | ((with_reducible apply G.store); rfl; rfl; rfl; rfl; rfl; rfl; (focus (repeat (first | assumption | exact Rem.here | apply Rem.there | apply Rem.oH))); (exact Nat.le_of_ble_eq_true rfl); (focus (repeat (first | exact StOk.nil | (refine StOk.keep ?_ ?_; (focus ((repeat (first | exact List.Mem.head _ | assumption | apply List.Mem.tail | apply mem_oH)); done))) | refine StOk.gone (by kernel_rfl) ?_))); rfl)
       | ((with_reducible apply G.build); rfl; rfl; rfl) | ((with_reducible apply G.eqs); rfl; rfl; rfl; rfl; (kernel_rfl); (kernel_rfl)) | ((with_reducible apply G.nes); rfl; rfl; rfl; rfl; (kernel_rfl); (kernel_rfl))
       | ((with_reducible apply G.num); rfl; rfl; rfl; rfl; rfl; (first | ((with_reducible apply shl8); omega; omega) | ((with_reducible apply shl16); omega; omega) | ((with_reducible apply or8); omega; omega; omega; omega) | ((with_reducible apply or16); omega; omega; omega; omega) | ((with_reducible apply or24); omega; omega; omega; omega; omega; omega) | ((with_reducible apply i64_in); omega; omega) | ((with_reducible apply wrap8_in); omega; omega) | ((with_reducible apply u64_in); omega; omega) | with_reducible exact shr16 _ | with_reducible exact shr8 _ | with_reducible exact wrap8_mod _ | with_reducible exact shr32u _ | ((with_reducible apply and32u); omega; omega) | with_reducible exact wrap64_mod _))
       | ((with_reducible apply G.min2); rfl; rfl; rfl; (first | (apply if_pos; omega) | (apply if_neg; omega) | rfl)) | ((with_reducible apply G.max2); rfl; rfl; rfl; (first | (apply if_pos; omega) | (apply if_neg; omega) | rfl))
       | ((with_reducible apply G.pure); rfl; rfl; rfl; rfl; rfl)
       | ((with_reducible apply G.known true); rfl; rfl; rfl; (focus (first | with_reducible rfl | ((with_reducible apply decide_eq_true); omega) | ((with_reducible apply decide_eq_false); omega) | ((with_reducible apply beq_iff_eq.2); omega) | ((with_reducible apply beq_eq_false_iff_ne.2); omega) | ((with_reducible apply bne_iff_ne.2); omega) | ((with_reducible apply bne_eq_false_iff_eq.2); omega) | (simp; done) | (rw [h1]; rfl) | (simp [h1]; done)))) | ((with_reducible apply G.known false); rfl; rfl; rfl; (focus (first | with_reducible rfl | ((with_reducible apply decide_eq_true); omega) | ((with_reducible apply decide_eq_false); omega) | ((with_reducible apply beq_iff_eq.2); omega) | ((with_reducible apply beq_eq_false_iff_ne.2); omega) | ((with_reducible apply bne_iff_ne.2); omega) | ((with_reducible apply bne_eq_false_iff_eq.2); omega) | (simp; done) | (rw [h1]; rfl) | (simp [h1]; done))))
       | ((with_reducible apply G.split); rfl; rfl; rfl; all_goals (intro h; first | replace h := beq_t h | replace h := beq_f h | replace h := bne_t h | replace h := bne_f h | replace h := of_decide_eq_true h | replace h := of_decide_eq_false h | skip)))
    | with_reducible apply RG.done | with_reducible apply Q.tn | with_reducible apply Q.tr | with_reducible apply Q.te | with_reducible apply Q.bn | with_reducible apply Q.br | with_reducible apply Q.be | ((with_reducible apply Q.bx); decide) | with_reducible apply Q.tp | with_reducible apply Q.bp
    | with_reducible apply SW.seq | with_reducible apply SW.block | with_reducible apply SW.ret | with_reducible apply SW.skip | with_reducible apply SW.exit
    | ((with_reducible apply SW.cond1); rfl; (focus (first | with_reducible rfl | ((with_reducible apply decide_eq_true); omega) | ((with_reducible apply decide_eq_false); omega) | ((with_reducible apply beq_iff_eq.2); omega) | ((with_reducible apply beq_eq_false_iff_ne.2); omega) | ((with_reducible apply bne_iff_ne.2); omega) | ((with_reducible apply bne_eq_false_iff_eq.2); omega) | (simp; done) | (rw [h1]; rfl) | (simp [h1]; done)))) | ((with_reducible apply SW.cond0); rfl; (focus (first | with_reducible rfl | ((with_reducible apply decide_eq_true); omega) | ((with_reducible apply decide_eq_false); omega) | ((with_reducible apply beq_iff_eq.2); omega) | ((with_reducible apply beq_eq_false_iff_ne.2); omega) | ((with_reducible apply bne_iff_ne.2); omega) | ((with_reducible apply bne_eq_false_iff_eq.2); omega) | (simp; done) | (rw [h1]; rfl) | (simp [h1]; done))))
    | ((with_reducible apply SW.cond); rfl; all_goals (intro h; first | replace h := beq_t h | replace h := beq_f h | replace h := bne_t h | replace h := bne_f h | replace h := of_decide_eq_true h | replace h := of_decide_eq_false h | skip))
    | ((with_reducible apply SW.region0); kernel_rfl; rfl))
  all_goals first
    | ((apply Q.ret (H' := svH b s v F) (.cons (by first | exact .tmp rfl | exact .cell rfl (by repeat (first | exact List.Mem.head _ | apply List.Mem.tail)) rfl) .nil)); (focus ((focus (repeat (first | exact Rems.all | exact Rems.nil | (apply Rems.own; (focus (repeat (first | exact OIn.here | apply OIn.there | apply OIn.over)))) | (apply Rems.cons; (focus (repeat (first | assumption | exact Rem.here | apply Rem.there | apply Rem.oH)))) | apply Rems.skip | apply Rems.oskip))))); exact ⟨rfl, rfl, hv⟩)
    | ((apply Q.ret (H' := svH b s (some (bb, cc, rr)) F) (.cons (by first | exact .tmp rfl | exact .cell rfl (by repeat (first | exact List.Mem.head _ | apply List.Mem.tail)) rfl) .nil)); (focus ((focus (repeat (first | exact Rems.all | exact Rems.nil | (apply Rems.own; (focus (repeat (first | exact OIn.here | apply OIn.there | apply OIn.over)))) | (apply Rems.cons; (focus (repeat (first | assumption | exact Rem.here | apply Rem.there | apply Rem.oH)))) | apply Rems.skip | apply Rems.oskip))))); exact ⟨rfl, rfl, hv⟩)
    | ((apply Q.ret (H' := (b, svR s (some (bb, cc, rr))) :: oH 73 (some (bb, cc, rr)) (cellsV (s.l.set j (fillS x now))) F) (.cons (by first | exact .tmp rfl | exact .cell rfl (by repeat (first | exact List.Mem.head _ | apply List.Mem.tail)) rfl) .nil)); (focus ((focus (repeat (first | exact Rems.all | exact Rems.nil | (apply Rems.own; (focus (repeat (first | exact OIn.here | apply OIn.there | apply OIn.over)))) | (apply Rems.cons; (focus (repeat (first | assumption | exact Rem.here | apply Rem.there | apply Rem.oH)))) | apply Rems.skip | apply Rems.oskip))))); exact ⟨rfl, sv_set _ _ _ _ _ _, OOk_set hv _ _⟩)
set_option maxHeartbeats 4000000 in
set_option maxRecDepth 4000 in
theorem charge_oc (s : Svs) (v : Own) (b : Nat) (i : Int) (F : Hp) (ho : s.ok) (hv : OOk 5 v s.l.length (cellsV s.l)) : OC Try.prog 21 #[.pointer (some ⟨b, 0, none⟩), .int .i64 i] (svH b s v F) (fun u H' => u = .tuple #[.bool (chaB s i), .int .i64 (chaE s i)] ∧ H' = svH b (chaS s i) v F ∧ OOk 5 v (chaS s i).l.length (cellsV (chaS s i).l)) := by
  have hmay := fun (G0 : Hp) (h0 : (b, svR s v) ∈ G0) (h1 : Has G0 (oA v) (cellsV s.l)) => may_rc G0 b s v h0 hv h1 i
  have hE : wakE s i = if 0 ≤ i ∧ i < s.l.length then 0 else 2 := rfl
  by_cases hin : 0 ≤ i ∧ i < s.l.length
  all_goals first | simp only [if_pos hin] at hmay hE | simp only [if_neg hin] at hmay hE
  case' pos => (obtain ⟨j, x, rfl, hj, hx⟩ := getV hin; obtain ⟨bb, cc, rr, rfl⟩ := hv.isSome (by omega); have ha := hv.isa (by omega); have hat := fun (G0 : Hp) (h0 : (b, svR s (some (bb, cc, rr))) ∈ G0) => at_in G0 b s _ h0 hv j hj; have hne := v_ne hx; have xb := v_b hx; have xp := v_p hx; have xl := v_left hx; have xd := v_dl hx; have xa := v_aw hx)
  case' neg => have hat := fun (G0 : Hp) (h0 : (b, svR s v) ∈ G0) => at_out G0 b s v h0 i hin
  case' neg => (obtain ⟨c1, c2, c3⟩ := cha_out hin; rw [c1, c2, c3])
  case' pos => (have hk := ho.each x (List.mem_of_getElem? hx); obtain ⟨r1, r2, r3, r4, r5, r6, r7⟩ := hk; have hlen := cellsV_len s.l; have s1 := set_left (x.left - 1) hx; have x1 := set_get (y := { x with left := x.left - 1 }) hx; have xl1 := v_left x1; have hne1 := v_ne x1; have hl : ∀ y, (cellsV (s.l.set j y)).length = s.l.length * 5 := (fun y => by rw [flat_len_set srvC srvC_len]; exact hlen); by_cases h0 : x.left = 0; (case' pos => (obtain ⟨c1, c2, c3⟩ := cha_zero hj hx h0; rw [c1, c2, c3])); (case' neg => (obtain ⟨c1, c2, c3⟩ := cha_in hj hx h0; rw [c1, c2, c3]; have hv1 := OOk_put hv j { x with left := x.left - 1 })))
  all_goals (try unfold RC)
  all_goals (try unfold DC)
  all_goals refine OC.of_sw Try.func21 rfl Try.ntmps21 (Nat.le_of_ble_eq_true rfl) fun C => ?_
  repeat' (first
    | ((with_reducible apply G.at); rfl; first
       | ((with_reducible apply G.move); rfl; rfl) | ((with_reducible apply G.assign); rfl; rfl)
       | ((with_reducible apply G.load0); rfl; rfl; (focus (repeat (first | exact List.Mem.head _ | assumption | apply List.Mem.tail | apply mem_oH))); rfl) | ((with_reducible apply G.load1); rfl; rfl; (focus (repeat (first | exact List.Mem.head _ | assumption | apply List.Mem.tail | apply mem_oH))); rfl)
       | ((with_reducible apply G.loadS0); rfl; rfl; (focus (repeat (first | assumption | exact Has.row (List.Mem.head _) | (apply Has.mine; assumption) | apply Has.tail | apply Has.oH | exact Has.nil))); assumption; (first | assumption | rfl)) | ((with_reducible apply G.loadS1); rfl; rfl; (first | assumption | exact Has.row (List.Mem.head _)); (focus (intro p hp; repeat (first | assumption | apply List.Mem.tail | apply mem_oH))); assumption; (first | assumption | rfl); intro _ _ _)
       | ((with_reducible apply G.faddrh (k := 0)); rfl; rfl; rfl) | ((with_reducible apply G.faddrh (k := 1)); rfl; rfl; rfl) | ((with_reducible apply G.faddrh (k := 2)); rfl; rfl; rfl) | ((with_reducible apply G.faddrh (k := 3)); rfl; rfl; rfl) | ((with_reducible apply G.faddrh (k := 4)); rfl; rfl; rfl) | ((with_reducible apply G.faddrh (k := 5)); rfl; rfl; rfl) | ((with_reducible apply G.faddrh (k := 6)); rfl; rfl; rfl) | ((with_reducible apply G.faddrh (k := 7)); rfl; rfl; rfl)
       | ((with_reducible apply G.faddrS (d := 0)); rfl; rfl; rfl; assumption) | ((with_reducible apply G.faddrS (d := 1)); rfl; rfl; rfl; assumption) | ((with_reducible apply G.faddrS (d := 2)); rfl; rfl; rfl; assumption) | ((with_reducible apply G.faddrS (d := 3)); rfl; rfl; rfl; assumption) | ((with_reducible apply G.faddrS (d := 4)); rfl; rfl; rfl; assumption) | ((with_reducible apply G.faddrS (d := 5)); rfl; rfl; rfl; assumption) | ((with_reducible apply G.faddrS (d := 6)); rfl; rfl; rfl; assumption) | ((with_reducible apply G.faddrS (d := 7)); rfl; rfl; rfl; assumption)
       | ((with_reducible apply G.nilckS); rfl; rfl; assumption)
       | ((with_reducible apply G.pnil); rfl; rfl; rfl; assumption; exact fun _ _ => rfl)
       | ((with_reducible apply G.storeO (n := 1)); rfl; rfl; rfl; rfl; rfl; rfl; (focus (repeat (first | exact OIn.here | apply OIn.there | apply OIn.over))); assumption; (focus (first | omega | (rw [hl]; omega))); (focus (exact s1)); (focus (repeat (first | exact StOk.nil | (refine StOk.keep ?_ ?_; (focus ((repeat (first | exact List.Mem.head _ | assumption | apply List.Mem.tail | apply mem_oH)); done))) | refine StOk.gone (by kernel_rfl) ?_))))
       | ((with_reducible apply G.rcall (f := 34)); rfl; rfl; exact Try.call34; ((apply hat); (focus (repeat (first | exact List.Mem.head _ | assumption | apply List.Mem.tail | apply mem_oH)))); (focus (repeat (first | exact StOk.nil | (refine StOk.keep ?_ ?_; (focus ((repeat (first | exact List.Mem.head _ | assumption | apply List.Mem.tail | apply mem_oH)); done))) | refine StOk.gone (by kernel_rfl) ?_))))
       | ((with_reducible apply G.rcall (f := 33)); rfl; rfl; exact Try.call33; ((apply hmay); (focus (repeat (first | exact List.Mem.head _ | assumption | apply List.Mem.tail | apply mem_oH))); (focus (repeat (first | assumption | exact Has.row (List.Mem.head _) | (apply Has.mine; assumption) | apply Has.tail | apply Has.oH | exact Has.nil)))); (focus (repeat (first | exact StOk.nil | (refine StOk.keep ?_ ?_; (focus ((repeat (first | exact List.Mem.head _ | assumption | apply List.Mem.tail | apply mem_oH)); done))) | refine StOk.gone (by kernel_rfl) ?_))))
       | ((with_reducible apply G.nilck); rfl; rfl) | ((with_reducible apply G.extract); rfl; rfl; rfl) | ((with_reducible apply G.len); rfl; rfl; rfl) | ((with_reducible apply G.pick1); rfl; rfl; rfl) | ((with_reducible apply G.pick0); rfl; rfl; rfl) | ((with_reducible apply G.unw); rfl) | ((with_reducible apply G.unw0); rfl)
       | ((with_reducible apply G.boxa); rfl; rfl; intro b) | ((with_reducible apply G.box); rfl; rfl; intro b) | ((with_reducible apply G.alloc); rfl; rfl; rfl; intro b)
       | ((with_reducible apply G.store); rfl; rfl; rfl; rfl; rfl; rfl; (focus (repeat (first | assumption | exact Rem.here | apply Rem.there | apply Rem.oH))); (exact Nat.le_of_ble_eq_true rfl); (focus (repeat (first | exact StOk.nil | (refine StOk.keep ?_ ?_; (focus ((repeat (first | exact List.Mem.head _ | assumption | apply List.Mem.tail | apply mem_oH)); done))) | refine StOk.gone (by kernel_rfl) ?_))); rfl)
       | ((with_reducible apply G.build); rfl; rfl; rfl) | ((with_reducible apply G.eqs); rfl; rfl; rfl; rfl; (kernel_rfl); (kernel_rfl)) | ((with_reducible apply G.nes); rfl; rfl; rfl; rfl; (kernel_rfl); (kernel_rfl))
       | ((with_reducible apply G.num); rfl; rfl; rfl; rfl; rfl; (first | ((with_reducible apply shl8); omega; omega) | ((with_reducible apply shl16); omega; omega) | ((with_reducible apply or8); omega; omega; omega; omega) | ((with_reducible apply or16); omega; omega; omega; omega) | ((with_reducible apply or24); omega; omega; omega; omega; omega; omega) | ((with_reducible apply i64_in); omega; omega) | ((with_reducible apply wrap8_in); omega; omega) | ((with_reducible apply u64_in); omega; omega) | with_reducible exact shr16 _ | with_reducible exact shr8 _ | with_reducible exact wrap8_mod _ | with_reducible exact shr32u _ | ((with_reducible apply and32u); omega; omega) | with_reducible exact wrap64_mod _))
       | ((with_reducible apply G.min2); rfl; rfl; rfl; (first | (apply if_pos; omega) | (apply if_neg; omega) | rfl)) | ((with_reducible apply G.max2); rfl; rfl; rfl; (first | (apply if_pos; omega) | (apply if_neg; omega) | rfl))
       | ((with_reducible apply G.pure); rfl; rfl; rfl; rfl; rfl)
       | ((with_reducible apply G.known true); rfl; rfl; rfl; (focus (first | with_reducible rfl | ((with_reducible apply decide_eq_true); omega) | ((with_reducible apply decide_eq_false); omega) | ((with_reducible apply beq_iff_eq.2); omega) | ((with_reducible apply beq_eq_false_iff_ne.2); omega) | ((with_reducible apply bne_iff_ne.2); omega) | ((with_reducible apply bne_eq_false_iff_eq.2); omega) | (simp; done)))) | ((with_reducible apply G.known false); rfl; rfl; rfl; (focus (first | with_reducible rfl | ((with_reducible apply decide_eq_true); omega) | ((with_reducible apply decide_eq_false); omega) | ((with_reducible apply beq_iff_eq.2); omega) | ((with_reducible apply beq_eq_false_iff_ne.2); omega) | ((with_reducible apply bne_iff_ne.2); omega) | ((with_reducible apply bne_eq_false_iff_eq.2); omega) | (simp; done))))
       | ((with_reducible apply G.split); rfl; rfl; rfl; all_goals (intro h; first | replace h := beq_t h | replace h := beq_f h | replace h := bne_t h | replace h := bne_f h | replace h := of_decide_eq_true h | replace h := of_decide_eq_false h | skip)))
    | with_reducible apply RG.done | with_reducible apply Q.tn | with_reducible apply Q.tr | with_reducible apply Q.te | with_reducible apply Q.bn | with_reducible apply Q.br | with_reducible apply Q.be | ((with_reducible apply Q.bx); decide) | with_reducible apply Q.tp | with_reducible apply Q.bp
    | with_reducible apply SW.seq | with_reducible apply SW.block | with_reducible apply SW.ret | with_reducible apply SW.skip | with_reducible apply SW.exit
    | ((with_reducible apply SW.cond1); rfl; (focus (first | with_reducible rfl | ((with_reducible apply decide_eq_true); omega) | ((with_reducible apply decide_eq_false); omega) | ((with_reducible apply beq_iff_eq.2); omega) | ((with_reducible apply beq_eq_false_iff_ne.2); omega) | ((with_reducible apply bne_iff_ne.2); omega) | ((with_reducible apply bne_eq_false_iff_eq.2); omega) | (simp; done)))) | ((with_reducible apply SW.cond0); rfl; (focus (first | with_reducible rfl | ((with_reducible apply decide_eq_true); omega) | ((with_reducible apply decide_eq_false); omega) | ((with_reducible apply beq_iff_eq.2); omega) | ((with_reducible apply beq_eq_false_iff_ne.2); omega) | ((with_reducible apply bne_iff_ne.2); omega) | ((with_reducible apply bne_eq_false_iff_eq.2); omega) | (simp; done))))
    | ((with_reducible apply SW.cond); rfl; all_goals (intro h; first | replace h := beq_t h | replace h := beq_f h | replace h := bne_t h | replace h := bne_f h | replace h := of_decide_eq_true h | replace h := of_decide_eq_false h | skip))
    | ((with_reducible apply SW.region0); kernel_rfl; rfl))
  all_goals first
    | ((apply Q.ret (H' := svH b s v F) (.cons (by first | exact .tmp rfl | exact .cell rfl (by repeat (first | exact List.Mem.head _ | apply List.Mem.tail)) rfl) (.cons (by first | exact .tmp rfl | exact .cell rfl (by repeat (first | exact List.Mem.head _ | apply List.Mem.tail)) rfl) .nil))); (focus ((focus (repeat (first | exact Rems.all | exact Rems.nil | (apply Rems.own; (focus (repeat (first | exact OIn.here | apply OIn.there | apply OIn.over)))) | (apply Rems.cons; (focus (repeat (first | assumption | exact Rem.here | apply Rem.there | apply Rem.oH)))) | apply Rems.skip | apply Rems.oskip))))); exact ⟨rfl, rfl, hv⟩)
    | ((apply Q.ret (H' := svH b s (some (bb, cc, rr)) F) (.cons (by first | exact .tmp rfl | exact .cell rfl (by repeat (first | exact List.Mem.head _ | apply List.Mem.tail)) rfl) (.cons (by first | exact .tmp rfl | exact .cell rfl (by repeat (first | exact List.Mem.head _ | apply List.Mem.tail)) rfl) .nil))); (focus ((focus (repeat (first | exact Rems.all | exact Rems.nil | (apply Rems.own; (focus (repeat (first | exact OIn.here | apply OIn.there | apply OIn.over)))) | (apply Rems.cons; (focus (repeat (first | assumption | exact Rem.here | apply Rem.there | apply Rem.oH)))) | apply Rems.skip | apply Rems.oskip))))); exact ⟨rfl, rfl, hv⟩)
    | ((apply Q.ret (H' := (b, svR s (some (bb, cc, rr))) :: oH 73 (some (bb, cc, rr)) (cellsV (s.l.set j ({ x with left := x.left - 1 }))) F) (.cons (by first | exact .tmp rfl | exact .cell rfl (by repeat (first | exact List.Mem.head _ | apply List.Mem.tail)) rfl) (.cons (by first | exact .tmp rfl | exact .cell rfl (by repeat (first | exact List.Mem.head _ | apply List.Mem.tail)) rfl) .nil))); (focus ((focus (repeat (first | exact Rems.all | exact Rems.nil | (apply Rems.own; (focus (repeat (first | exact OIn.here | apply OIn.there | apply OIn.over)))) | (apply Rems.cons; (focus (repeat (first | assumption | exact Rem.here | apply Rem.there | apply Rem.oH)))) | apply Rems.skip | apply Rems.oskip))))); exact ⟨rfl, sv_set _ _ _ _ _ _, OOk_set hv _ _⟩)
end Go.Proofs.Ytoeomoaelfnihaa
