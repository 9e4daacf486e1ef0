/- Contracts of Refill. -/
import Derived.Test.YtoeomoaelfnihaaK4
import Derived.Test.YtoeomoaelfnihaaSM
namespace Go.Proofs.Ytoeomoaelfnihaa
open Go Go.RowKit Bw
set_option linter.unusedSimpArgs false
set_option linter.unusedVariables false
attribute [local irreducible] OC RC DC XC


def dueB (x : Srv) (now : Int) : Bool := x.aw && (x.left == 0 && decide (x.dl ≤ now))
def refX (now : Int) (x : Srv) : Srv := if dueB x now then fillS x now else x
def refL (l : List Srv) (now : Int) : List Srv := l.map (refX now)
def curL (l : List Srv) (now : Int) (j : Nat) : List Srv := (l.take j).map (refX now) ++ l.drop j
def dueAt (l : List Srv) (now : Int) (i : Nat) : Bool := match l[i]? with | some x => dueB x now | none => false
def outL (l : List Srv) (now : Int) (j : Nat) : List Int := ((List.range j).filter (dueAt l now)).map fun (i : Nat) => (i : Int)
abbrev cellsN (o : List Int) : List Value := o.map fun n => .int .i64 n
theorem cur_len (l : List Srv) (now : Int) (j : Nat) : (curL l now j).length = l.length := by
  simp only [curL, List.length_append, List.length_map, List.length_take, List.length_drop]; omega
theorem cur_zero (l : List Srv) (now : Int) : curL l now 0 = l := rfl
theorem cur_end (l : List Srv) (now : Int) : curL l now l.length = refL l now := by simp [curL, refL]
theorem cur_get {l : List Srv} {j : Nat} {x : Srv} (now : Int) (hx : l[j]? = some x) : (curL l now j)[j]? = some x := by
  have hj := (List.getElem?_eq_some_iff.1 hx).1
  rw [curL, List.getElem?_append_right (by simp; omega)]
  simp only [List.length_map, List.length_take, List.getElem?_drop]
  rw [show j + (j - min j l.length) = j by omega]; exact hx
theorem cur_succ {l : List Srv} {j : Nat} {x : Srv} (now : Int) (hx : l[j]? = some x) : curL l now (j + 1) = (curL l now j).set j (refX now x) := by
  have hj := (List.getElem?_eq_some_iff.1 hx).1
  have e1 : l.take (j + 1) = l.take j ++ [x] := by rw [List.take_add_one, hx]; rfl
  have e2 : l.drop j = x :: l.drop (j + 1) := by
    rw [List.drop_eq_getElem_cons hj]; congr 1
    rw [List.getElem?_eq_getElem hj] at hx; exact Option.some.inj hx
  rw [curL, curL, e1, e2, List.set_append_right _ _ (by simp; omega)]
  simp only [List.length_map, List.length_take, List.map_append, List.map_cons, List.map_nil, List.append_assoc, List.singleton_append]
  rw [show j - min j l.length = 0 by omega]; rfl
theorem cur_due {l : List Srv} {j : Nat} {x : Srv} {now : Int} (hx : l[j]? = some x) (h : dueB x now = true) : curL l now (j + 1) = (curL l now j).set j (fillS x now) := by
  rw [cur_succ now hx, refX, if_pos h]
theorem cur_no {l : List Srv} {j : Nat} {x : Srv} {now : Int} (hx : l[j]? = some x) (h : ¬ dueB x now = true) : curL l now (j + 1) = curL l now j := by
  rw [cur_succ now hx, refX, if_neg h]
  exact List.ext_getElem? fun i => by
    rw [List.getElem?_set]
    split
    · rename_i he; subst he; rw [cur_get now hx]; simp only [cur_len]; rw [if_pos (List.getElem?_eq_some_iff.1 hx).1]
    · rfl
theorem out_zero (l : List Srv) (now : Int) : outL l now 0 = [] := rfl
theorem out_due {l : List Srv} {j : Nat} {x : Srv} {now : Int} (hx : l[j]? = some x) (h : dueB x now = true) : outL l now (j + 1) = outL l now j ++ [(j : Int)] := by
  have hd : dueAt l now j = true := by unfold dueAt; rw [hx]; exact h
  simp [outL, List.range_succ, List.filter_append, hd]
theorem out_no {l : List Srv} {j : Nat} {x : Srv} {now : Int} (hx : l[j]? = some x) (h : ¬ dueB x now = true) : outL l now (j + 1) = outL l now j := by
  have hd : ¬ dueAt l now j = true := by unfold dueAt; rw [hx]; exact h
  simp [outL, List.range_succ, List.filter_append, hd]
theorem out_len (l : List Srv) (now : Int) (j : Nat) : (outL l now j).length ≤ j := by
  rw [outL, List.length_map]; exact Nat.le_trans (List.length_filter_le _ _) (by simp)
theorem cellsN_app (o : List Int) (n : Int) : cellsN o ++ [.int .i64 n] = cellsN (o ++ [n]) := by simp [cellsN]
/-- What is known at the head of a round. -/
abbrev HH (l D b c1 c2 c3 co : Nat) (r : Loop) (s : Svs) (v : Own) (now : Int) (F : Hp) (j : Nat) (vo : Own) : Hp :=
  (l, .obj (.loop r)) :: (D, .obj (.deferred (some []))) :: (c2, .row 25 [.int .u64 now] 0) :: (c1, .row 23 [.pointer (some ⟨b, 0, none⟩)] 0) :: (co, .row 41 [.slice (oA vo) (outL s.l now j).length (oC vo)] 0) :: (c3, .row 25 [.int .u64 now] 0) :: oH 3 vo (cellsN (outL s.l now j)) ((b, svR s v) :: oH 73 v (cellsV (curL s.l now j)) F)

set_option maxHeartbeats 4000000 in
set_option maxRecDepth 4000 in
theorem due_oc (H : Hp) (b : Nat) (now : Int) : OC Try.prog 36 #[.pointer (some ⟨b, 0, none⟩), .int .u64 now] H (fun u H' => ∃ c1 c2, u = .func (.func 50) #[] #[.pointer (some ⟨c1, 0, none⟩), .pointer (some ⟨c2, 0, none⟩)] ∧ H' = (c2, .row 25 [.int .u64 now] 0) :: (c1, .row 23 [.pointer (some ⟨b, 0, none⟩)] 0) :: H) := by
  all_goals (try unfold RC)
  all_goals (try unfold DC)
  all_goals refine OC.of_sw Try.func36 rfl Try.ntmps36 (Nat.le_of_ble_eq_true rfl) fun C => ?_
  repeat' (first
    | ((with_reducible apply G.at); rfl; first
       | ((with_reducible apply G.move); rfl; rfl) | ((with_reducible apply G.assign); rfl; rfl)
       | ((with_reducible apply G.load0); rfl; rfl; (focus (repeat (first | exact List.Mem.head _ | assumption | apply List.Mem.tail | apply mem_oH))); rfl) | ((with_reducible apply G.load1); rfl; rfl; (focus (repeat (first | exact List.Mem.head _ | assumption | apply List.Mem.tail | apply mem_oH))); rfl)
       | ((with_reducible apply G.faddrh (k := 0)); rfl; rfl; rfl) | ((with_reducible apply G.faddrh (k := 1)); rfl; rfl; rfl) | ((with_reducible apply G.faddrh (k := 2)); rfl; rfl; rfl) | ((with_reducible apply G.faddrh (k := 3)); rfl; rfl; rfl) | ((with_reducible apply G.faddrh (k := 4)); rfl; rfl; rfl) | ((with_reducible apply G.faddrh (k := 5)); rfl; rfl; rfl) | ((with_reducible apply G.faddrh (k := 6)); rfl; rfl; rfl) | ((with_reducible apply G.faddrh (k := 7)); rfl; rfl; rfl)
       | ((with_reducible apply G.mkf); rfl; rfl)
       | ((with_reducible apply G.boxa (e := 23)); rfl; rfl; intro c1)
       | ((with_reducible apply G.box (e := 23)); rfl; rfl; intro c1)
       | ((with_reducible apply G.boxa (e := 25)); rfl; rfl; intro c2)
       | ((with_reducible apply G.box (e := 25)); rfl; rfl; intro c2)
       | ((with_reducible apply G.nilck); rfl; rfl) | ((with_reducible apply G.extract); rfl; rfl; rfl) | ((with_reducible apply G.len); rfl; rfl; rfl) | ((with_reducible apply G.pick1); rfl; rfl; rfl) | ((with_reducible apply G.pick0); rfl; rfl; rfl) | ((with_reducible apply G.unw); rfl) | ((with_reducible apply G.unw0); rfl)
       | ((with_reducible apply G.boxa); rfl; rfl; intro b) | ((with_reducible apply G.box); rfl; rfl; intro b) | ((with_reducible apply G.alloc); rfl; rfl; rfl; intro b)
       | ((with_reducible apply G.store); rfl; rfl; rfl; rfl; rfl; rfl; (focus (repeat (first | assumption | exact Rem.here | apply Rem.there | apply Rem.oH))); (exact Nat.le_of_ble_eq_true rfl); (focus (repeat (first | exact StOk.nil | (refine StOk.keep ?_ ?_; (focus ((repeat (first | exact List.Mem.head _ | assumption | apply List.Mem.tail | apply mem_oH)); done))) | refine StOk.gone (by kernel_rfl) ?_))); rfl)
       | ((with_reducible apply G.build); rfl; rfl; rfl) | ((with_reducible apply G.eqs); rfl; rfl; rfl; rfl; (kernel_rfl); (kernel_rfl)) | ((with_reducible apply G.nes); rfl; rfl; rfl; rfl; (kernel_rfl); (kernel_rfl))
       | ((with_reducible apply G.num); rfl; rfl; rfl; rfl; rfl; (first | ((with_reducible apply shl8); omega; omega) | ((with_reducible apply shl16); omega; omega) | ((with_reducible apply or8); omega; omega; omega; omega) | ((with_reducible apply or16); omega; omega; omega; omega) | ((with_reducible apply or24); omega; omega; omega; omega; omega; omega) | ((with_reducible apply i64_in); omega; omega) | ((with_reducible apply wrap8_in); omega; omega) | ((with_reducible apply u64_in); omega; omega) | with_reducible exact shr16 _ | with_reducible exact shr8 _ | with_reducible exact wrap8_mod _ | with_reducible exact shr32u _ | ((with_reducible apply and32u); omega; omega) | with_reducible exact wrap64_mod _))
       | ((with_reducible apply G.min2); rfl; rfl; rfl; (first | (apply if_pos; omega) | (apply if_neg; omega) | rfl)) | ((with_reducible apply G.max2); rfl; rfl; rfl; (first | (apply if_pos; omega) | (apply if_neg; omega) | rfl))
       | ((with_reducible apply G.pure); rfl; rfl; rfl; rfl; rfl)
       | ((with_reducible apply G.known true); rfl; rfl; rfl; (focus (first | with_reducible rfl | ((with_reducible apply decide_eq_true); omega) | ((with_reducible apply decide_eq_false); omega) | ((with_reducible apply beq_iff_eq.2); omega) | ((with_reducible apply beq_eq_false_iff_ne.2); omega) | ((with_reducible apply bne_iff_ne.2); omega) | ((with_reducible apply bne_eq_false_iff_eq.2); omega) | (simp; done)))) | ((with_reducible apply G.known false); rfl; rfl; rfl; (focus (first | with_reducible rfl | ((with_reducible apply decide_eq_true); omega) | ((with_reducible apply decide_eq_false); omega) | ((with_reducible apply beq_iff_eq.2); omega) | ((with_reducible apply beq_eq_false_iff_ne.2); omega) | ((with_reducible apply bne_iff_ne.2); omega) | ((with_reducible apply bne_eq_false_iff_eq.2); omega) | (simp; done))))
       | ((with_reducible apply G.split); rfl; rfl; rfl; all_goals (intro h; first | replace h := beq_t h | replace h := beq_f h | replace h := bne_t h | replace h := bne_f h | replace h := of_decide_eq_true h | replace h := of_decide_eq_false h | skip)))
    | with_reducible apply RG.done | with_reducible apply Q.tn | with_reducible apply Q.tr | with_reducible apply Q.te | with_reducible apply Q.bn | with_reducible apply Q.br | with_reducible apply Q.be | ((with_reducible apply Q.bx); decide) | with_reducible apply Q.tp | with_reducible apply Q.bp
    | with_reducible apply SW.seq | with_reducible apply SW.block | with_reducible apply SW.ret | with_reducible apply SW.skip | with_reducible apply SW.exit
    | ((with_reducible apply SW.cond1); rfl; (focus (first | with_reducible rfl | ((with_reducible apply decide_eq_true); omega) | ((with_reducible apply decide_eq_false); omega) | ((with_reducible apply beq_iff_eq.2); omega) | ((with_reducible apply beq_eq_false_iff_ne.2); omega) | ((with_reducible apply bne_iff_ne.2); omega) | ((with_reducible apply bne_eq_false_iff_eq.2); omega) | (simp; done)))) | ((with_reducible apply SW.cond0); rfl; (focus (first | with_reducible rfl | ((with_reducible apply decide_eq_true); omega) | ((with_reducible apply decide_eq_false); omega) | ((with_reducible apply beq_iff_eq.2); omega) | ((with_reducible apply beq_eq_false_iff_ne.2); omega) | ((with_reducible apply bne_iff_ne.2); omega) | ((with_reducible apply bne_eq_false_iff_eq.2); omega) | (simp; done))))
    | ((with_reducible apply SW.cond); rfl; all_goals (intro h; first | replace h := beq_t h | replace h := beq_f h | replace h := bne_t h | replace h := bne_f h | replace h := of_decide_eq_true h | replace h := of_decide_eq_false h | skip))
    | ((with_reducible apply SW.region0); kernel_rfl; rfl))
  all_goals ((apply Q.ret (.cons (by first | exact .tmp rfl | exact .cell rfl (by repeat (first | exact List.Mem.head _ | apply List.Mem.tail)) rfl) .nil) ?_ (⟨c1, c2, rfl, rfl⟩)); all_goals (focus (repeat (first | exact Rems.all | exact Rems.nil | (apply Rems.own; (focus (repeat (first | exact OIn.here | apply OIn.there | apply OIn.over)))) | (apply Rems.cons; (focus (repeat (first | assumption | exact Rem.here | apply Rem.there | apply Rem.oH)))) | apply Rems.skip | apply Rems.oskip))))
end Go.Proofs.Ytoeomoaelfnihaa
