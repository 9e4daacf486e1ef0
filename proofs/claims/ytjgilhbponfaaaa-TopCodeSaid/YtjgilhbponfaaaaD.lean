/- Contracts of Decode and what it calls. -/
import Derived.Test.YtjgilhbponfaaaaK2
import Derived.Test.YtjgilhbponfaaaaSH
namespace Go.Proofs.Ytjgilhbponfaaaa
open Go Go.RowKit Bw
attribute [local irreducible] OC RC DC XC


theorem Has.of_rem {H F : Hp} {p : Nat × AObj} {a : Option Addr} {cs : List Value} (h : Has F a cs) (hr : Rem H p F) : Has H a cs :=
  h.imp id fun ⟨b, off, o, h1, h2, h3⟩ => ⟨b, off, o, h1, hr.perm.mem_iff.2 (List.mem_cons_of_mem _ h2), h3⟩
theorem Has.of_sub {H F : Hp} {a : Option Addr} {cs : List Value} (h : Has F a cs) (hr : ∀ p ∈ F, p ∈ H) : Has H a cs :=
  h.imp id fun ⟨b, off, o, h1, h2, h3⟩ => ⟨b, off, o, h1, hr _ h2, h3⟩
theorem mem_of_rem {H F : Hp} {p : Nat × AObj} (hr : Rem H p F) : p ∈ H := hr.perm.mem_iff.2 (List.mem_cons_self ..)
theorem has_drop {F : Hp} {a : Option Addr} {L c n : Nat} {bs : List Int} (hs : Has F a (bytesV bs)) (hL : bs.length = L) (hn : L ≥ n) (hc : L ≤ c) : Has F (subA a n c 1) (bytesV (bs.drop n)) := by
  have h := hs.drop n c 1 (fun e => by simp [bytesV]; omega)
  rw [Nat.mul_one] at h
  simpa [bytesV, List.map_drop] using h
def faultV : Value := .iface 56 (.agg [].toArray)
def faultCh : List PanicEntry := [{ v := faultV, recovered := false }]
def numOf (l : List Int) : Int := l.foldl (fun v c => v * 256 + c) 0
theorem numOf_succ {l : List Int} {j : Nat} {x : Int} (h : l[j]? = some x) : numOf (l.take (j + 1)) = numOf (l.take j) * 256 + x := by
  simp [numOf, List.take_add_one, h]
theorem numOf_lt (bs : List Int) (hb : ∀ x ∈ bs, Byte x) : ∀ j, j ≤ 2 → 0 ≤ numOf (bs.take j) ∧ numOf (bs.take j) < 65536 := by
  intro j hj
  match bs, hb with
  | [], _ => simp [numOf]
  | [x], hb => have h1 := hb x (by simp); obtain ⟨a1, a2⟩ := h1; match j, hj with | 0, _ => simp [numOf] | 1, _ => simp [numOf]; omega | 2, _ => simp [numOf]; omega
  | x :: y :: l, hb =>
    have h1 := hb x (by simp); have h2 := hb y (by simp); obtain ⟨a1, a2⟩ := h1; obtain ⟨b1, b2⟩ := h2
    match j, hj with | 0, _ => simp [numOf] | 1, _ => simp [numOf]; omega | 2, _ => simp [numOf]; omega
theorem bytes_5 {l : List Int} {j : Nat} {x : Int} (h : l[j]? = some x) : loadL Try.prog 5 (bytesV l) (j * 1) = some (.int .u8 x) := by
  have e : bytesV l = l.flatMap fun x => [Value.int .u8 x] := by
    unfold bytesV; clear h
    induction l with
    | nil => rfl
    | cons y l ih => rw [List.map_cons, List.flatMap_cons, ← ih]; rfl
  rw [e]
  exact loadL_fld (m := 1) (d := 0) (n := 1) (by kernel_rfl) (fun _ => rfl) h (by decide) rfl
theorem bytes_ne {l : List Int} {j : Nat} {x : Int} (h : l[j]? = some x) : bytesV l ≠ [] := by
  cases l with
  | nil => simp at h
  | cons y l => simp [bytesV]

set_option maxHeartbeats 400000 in
set_option maxRecDepth 4000 in
theorem must_xc (H : Hp) (b : Bool) : XC Try.prog 28 #[.bool b] H (fun u H' => b = true ∧ u = .tuple #[] ∧ H' = H) (fun ch H' => b = false ∧ ch = faultCh ∧ H' = H) := by
  cases b
  all_goals refine XC.of_sw Try.func28 rfl Try.ntmps28 (Nat.le_of_ble_eq_true rfl) fun C => ?_
  repeat' (first
    | ((with_reducible apply G.at); rfl; first
       | ((with_reducible apply G.move); rfl; rfl) | ((with_reducible apply G.assign); rfl; rfl)
       | ((with_reducible apply G.load0); rfl; rfl; (focus (repeat (first | exact List.Mem.head _ | assumption | apply List.Mem.tail | apply mem_oH))); rfl) | ((with_reducible apply G.load1); rfl; rfl; (focus (repeat (first | exact List.Mem.head _ | assumption | apply List.Mem.tail | apply mem_oH))); rfl)
       | ((with_reducible apply G.faddrh (k := 0)); rfl; rfl; rfl) | ((with_reducible apply G.faddrh (k := 1)); rfl; rfl; rfl) | ((with_reducible apply G.faddrh (k := 2)); rfl; rfl; rfl) | ((with_reducible apply G.faddrh (k := 3)); rfl; rfl; rfl) | ((with_reducible apply G.faddrh (k := 4)); rfl; rfl; rfl) | ((with_reducible apply G.faddrh (k := 5)); rfl; rfl; rfl) | ((with_reducible apply G.faddrh (k := 6)); rfl; rfl; rfl) | ((with_reducible apply G.faddrh (k := 7)); rfl; rfl; rfl)
       | ((with_reducible apply G.panic); rfl; rfl)
       | ((with_reducible apply G.nilck); rfl; rfl) | ((with_reducible apply G.extract); rfl; rfl; rfl) | ((with_reducible apply G.len); rfl; rfl; rfl) | ((with_reducible apply G.pick1); rfl; rfl; rfl) | ((with_reducible apply G.pick0); rfl; rfl; rfl) | ((with_reducible apply G.unw); rfl) | ((with_reducible apply G.unw0); rfl)
       | ((with_reducible apply G.boxa); rfl; rfl; intro b) | ((with_reducible apply G.box); rfl; rfl; intro b) | ((with_reducible apply G.alloc); rfl; rfl; rfl; intro b)
       | ((with_reducible apply G.store); rfl; rfl; rfl; rfl; rfl; rfl; (focus (repeat (first | assumption | exact Rem.here | apply Rem.there | apply Rem.oH))); (exact Nat.le_of_ble_eq_true rfl); (focus (repeat (first | exact StOk.nil | (refine StOk.keep ?_ ?_; (focus ((repeat (first | exact List.Mem.head _ | assumption | apply List.Mem.tail | apply mem_oH)); done))) | refine StOk.gone (by kernel_rfl) ?_))); rfl)
       | ((with_reducible apply G.build); rfl; rfl; rfl) | ((with_reducible apply G.eqs); rfl; rfl; rfl; rfl; (kernel_rfl); (kernel_rfl)) | ((with_reducible apply G.nes); rfl; rfl; rfl; rfl; (kernel_rfl); (kernel_rfl))
       | ((with_reducible apply G.num); rfl; rfl; rfl; rfl; rfl; (first | with_reducible exact shl8 _ (by omega) (by omega) | with_reducible exact shl16 _ (by omega) (by omega) | with_reducible exact or8 (by omega) (by omega) (by omega) (by omega) | with_reducible exact or16 (by omega) (by omega) (by omega) (by omega) | with_reducible exact or24 (by omega) (by omega) (by omega) (by omega) (by omega) (by omega) | with_reducible exact i64_in _ (by omega) (by omega) | with_reducible exact wrap8_in _ (by omega) (by omega) | with_reducible exact u64_in _ (by omega) (by omega) | with_reducible exact shr16 _ | with_reducible exact shr8 _ | with_reducible exact wrap8_mod _))
       | ((with_reducible apply G.pure); rfl; rfl; rfl; rfl; rfl)
       | ((with_reducible apply G.split); rfl; rfl; rfl; all_goals (intro h; first | replace h := beq_t h | replace h := beq_f h | replace h := bne_t h | replace h := bne_f h | replace h := of_decide_eq_true h | replace h := of_decide_eq_false h | skip)))
    | with_reducible apply RG.done | with_reducible apply Q.tn | with_reducible apply Q.tr | with_reducible apply Q.te | with_reducible apply Q.bn | with_reducible apply Q.br | with_reducible apply Q.be | ((with_reducible apply Q.bx); decide) | with_reducible apply Q.tp | with_reducible apply Q.bp
    | with_reducible apply SW.seq | with_reducible apply SW.block | with_reducible apply SW.ret | with_reducible apply SW.skip | with_reducible apply SW.exit
    | ((with_reducible apply SW.cond1); rfl; (focus (rfl))) | ((with_reducible apply SW.cond0); rfl; (focus (rfl)))
    | ((with_reducible apply SW.cond); rfl; all_goals (intro h; first | replace h := beq_t h | replace h := beq_f h | replace h := bne_t h | replace h := bne_f h | replace h := of_decide_eq_true h | replace h := of_decide_eq_false h | skip))
    | ((with_reducible apply SW.region0); kernel_rfl; rfl))
  all_goals first | (apply Q.xp; exact Rems.all; exact ⟨rfl, rfl, rfl⟩) | (apply Q.xr; apply Q.fall .nil; exact Rems.all; exact ⟨rfl, rfl, rfl⟩)
set_option maxHeartbeats 400000 in
set_option maxRecDepth 4000 in
theorem number_xc (H F B : Hp) (br : Nat) (a : Option Addr) (L c n : Nat) (bs : List Int) (hr : Rem H (br, .row 59 [.slice a L c] 0) F) (hsub : ∀ p ∈ B, p ∈ F) (hL : bs.length = L) (hs : Has B a (bytesV bs)) (hb : ∀ x ∈ bs, Byte x) (hc : L ≤ c) (hn : n ≤ 3) :
  XC Try.prog 27 #[.pointer (some ⟨br, 0, none⟩), .int .i64 n] H (fun u H' => n ≤ L ∧ ∃ x, x = numOf (bs.take n) ∧ u = .int .i64 x ∧ ∃ a' c', H' = (br, .row 59 [.slice a' (L - n) c'] 0) :: F ∧ Has B a' (bytesV (bs.drop n)) ∧ L - n ≤ c')
  (fun ch H' => L < n ∧ ch = faultCh ∧ H' = H) := by
  have hs' := Has.of_rem (Has.of_sub hs hsub) hr
  have hm := mem_of_rem hr
  rcases Nat.lt_or_ge L n with hLn | hLn
  all_goals refine XC.of_sw Try.func27 rfl Try.ntmps27 (Nat.le_of_ble_eq_true rfl) fun C => ?_
  repeat' (first
    | ((with_reducible apply SW.bloopI (id := 0) (α := (Nat × Int)) (Inv := (fun (s : Nat × Int) => s.1 ≤ n ∧ s.2 = numOf (bs.take s.1))) (I := (fun (s : Nat × Int) => match s with | (j, v) => [(0, .pointer (some ⟨br, 0, none⟩)), (1, .int .i64 n), (4, .int .i64 v), (20, .slice a n c), (21, .int .i64 n), (22, .int .i64 (j : Nat))])) (J := (fun _ => H)) (μ := (fun s => n - s.1)) (x0 := (0, 0))); (exact ⟨Nat.zero_le _, by simp [numOf]⟩); (apply Exists.intro; apply And.intro; (focus (repeat (first | exact trivial | refine ⟨rfl, ?_⟩))); (focus (repeat (first | exact Rems.all | exact Rems.nil | (apply Rems.own; (focus (repeat (first | exact OIn.here | apply OIn.there | apply OIn.over)))) | (apply Rems.cons; (focus (repeat (first | assumption | exact Rem.here | apply Rem.there | apply Rem.oH)))) | apply Rems.skip | apply Rems.oskip)))); (rintro ⟨j, v⟩ hj; obtain ⟨hj1, hj2⟩ := hj; dsimp only at hj1 hj2; rcases Nat.lt_or_ge j n with hlt | hge; (case' inl => (obtain ⟨x, hx⟩ : ∃ x, bs[j]? = some x := ⟨_, List.getElem?_eq_getElem (by omega)⟩; have hne := bytes_ne hx; have ha := hs'.isa hne; have e5 := bytes_5 hx; obtain ⟨x1, x2⟩ := hb x (List.mem_of_getElem? hx); obtain ⟨v1, v2⟩ := numOf_lt bs hb j (by omega); rw [← hj2] at v1 v2)); (case' inr => (obtain rfl : j = n := by omega))))
    | ((refine Exists.intro (j + 1, v * 256 + x) ?_); (apply Exists.intro); (refine ⟨?_, ?_, ?_, ?_⟩); (exact ⟨by (try dsimp only); omega, by (try dsimp only); rw [numOf_succ hx, hj2]⟩); (focus (repeat (first | exact trivial | refine ⟨rfl, ?_⟩))); (focus (repeat (first | exact Rems.all | exact Rems.nil | (apply Rems.own; (focus (repeat (first | exact OIn.here | apply OIn.there | apply OIn.over)))) | (apply Rems.cons; (focus (repeat (first | assumption | exact Rem.here | apply Rem.there | apply Rem.oH)))) | apply Rems.skip | apply Rems.oskip))); ((try dsimp only); omega))
    | ((with_reducible apply G.at); rfl; first
       | ((with_reducible apply G.move); rfl; rfl) | ((with_reducible apply G.assign); rfl; rfl)
       | ((with_reducible apply G.load0); rfl; rfl; (focus (repeat (first | exact List.Mem.head _ | assumption | apply List.Mem.tail | apply mem_oH))); rfl) | ((with_reducible apply G.load1); rfl; rfl; (focus (repeat (first | exact List.Mem.head _ | assumption | apply List.Mem.tail | apply mem_oH))); rfl)
       | ((with_reducible apply G.loadS0); rfl; rfl; (focus (repeat (first | assumption | exact Has.row (List.Mem.head _) | (apply Has.mine; assumption) | apply Has.tail | apply Has.oH | exact Has.nil))); assumption; (first | assumption | rfl)) | ((with_reducible apply G.loadS1); rfl; rfl; (first | assumption | exact Has.row (List.Mem.head _)); (focus (intro p hp; repeat (first | assumption | apply List.Mem.tail | apply mem_oH))); assumption; (first | assumption | rfl); intro _ _ _)
       | ((with_reducible apply G.faddrh (k := 0)); rfl; rfl; rfl) | ((with_reducible apply G.faddrh (k := 1)); rfl; rfl; rfl) | ((with_reducible apply G.faddrh (k := 2)); rfl; rfl; rfl) | ((with_reducible apply G.faddrh (k := 3)); rfl; rfl; rfl) | ((with_reducible apply G.faddrh (k := 4)); rfl; rfl; rfl) | ((with_reducible apply G.faddrh (k := 5)); rfl; rfl; rfl) | ((with_reducible apply G.faddrh (k := 6)); rfl; rfl; rfl) | ((with_reducible apply G.faddrh (k := 7)); rfl; rfl; rfl)
       | ((with_reducible apply G.faddrS (d := 0)); rfl; rfl; rfl; assumption) | ((with_reducible apply G.faddrS (d := 1)); rfl; rfl; rfl; assumption) | ((with_reducible apply G.faddrS (d := 2)); rfl; rfl; rfl; assumption) | ((with_reducible apply G.faddrS (d := 3)); rfl; rfl; rfl; assumption) | ((with_reducible apply G.faddrS (d := 4)); rfl; rfl; rfl; assumption) | ((with_reducible apply G.faddrS (d := 5)); rfl; rfl; rfl; assumption) | ((with_reducible apply G.faddrS (d := 6)); rfl; rfl; rfl; assumption) | ((with_reducible apply G.faddrS (d := 7)); rfl; rfl; rfl; assumption)
       | ((with_reducible apply G.slice_h (h := n)); rfl; rfl; rfl; rfl; (first | rfl | omega); (first | assumption | omega))
       | ((with_reducible apply G.slice_l (l := n)); rfl; rfl; rfl; rfl; (first | rfl | omega); (first | assumption | omega))
       | ((with_reducible apply G.slice_l (l := j)); rfl; rfl; rfl; rfl; (first | rfl | omega); (first | assumption | omega))
       | ((with_reducible apply G.iaddrS (size := 1) (j := j)); rfl; rfl; rfl; rfl; assumption; (first | rfl | omega); (first | assumption | omega))
       | ((with_reducible apply G.xcall (f := 28)); rfl; rfl; exact Try.call28; (exact must_xc _ _); (rintro _ H ⟨hok, rfl, rfl⟩; try (replace hok := of_decide_eq_true hok); first | (exfalso; omega) | skip; (focus (repeat (first | exact StOk.nil | (refine StOk.keep ?_ ?_; (focus ((repeat (first | exact List.Mem.head _ | assumption | apply List.Mem.tail | apply mem_oH)); done))) | refine StOk.gone (by kernel_rfl) ?_)))); (case' next => (rintro _ H ⟨hok, rfl, rfl⟩; try (replace hok := of_decide_eq_true hok); first | (exfalso; omega) | skip)); (case' nextp => (rintro _ H ⟨hok, rfl, rfl⟩; try (replace hok := of_decide_eq_false hok); first | (exfalso; omega) | skip)))
       | ((with_reducible apply G.nilck); rfl; rfl) | ((with_reducible apply G.extract); rfl; rfl; rfl) | ((with_reducible apply G.len); rfl; rfl; rfl) | ((with_reducible apply G.pick1); rfl; rfl; rfl) | ((with_reducible apply G.pick0); rfl; rfl; rfl) | ((with_reducible apply G.unw); rfl) | ((with_reducible apply G.unw0); rfl)
       | ((with_reducible apply G.boxa); rfl; rfl; intro b) | ((with_reducible apply G.box); rfl; rfl; intro b) | ((with_reducible apply G.alloc); rfl; rfl; rfl; intro b)
       | ((with_reducible apply G.store); rfl; rfl; rfl; rfl; rfl; rfl; (focus (repeat (first | assumption | exact Rem.here | apply Rem.there | apply Rem.oH))); (exact Nat.le_of_ble_eq_true rfl); (focus (repeat (first | exact StOk.nil | (refine StOk.keep ?_ ?_; (focus ((repeat (first | exact List.Mem.head _ | assumption | apply List.Mem.tail | apply mem_oH)); done))) | refine StOk.gone (by kernel_rfl) ?_))); rfl)
       | ((with_reducible apply G.build); rfl; rfl; rfl) | ((with_reducible apply G.eqs); rfl; rfl; rfl; rfl; (kernel_rfl); (kernel_rfl)) | ((with_reducible apply G.nes); rfl; rfl; rfl; rfl; (kernel_rfl); (kernel_rfl))
       | ((with_reducible apply G.num); rfl; rfl; rfl; rfl; rfl; (first | with_reducible exact shl8 _ (by omega) (by omega) | with_reducible exact shl16 _ (by omega) (by omega) | with_reducible exact or8 (by omega) (by omega) (by omega) (by omega) | with_reducible exact or16 (by omega) (by omega) (by omega) (by omega) | with_reducible exact or24 (by omega) (by omega) (by omega) (by omega) (by omega) (by omega) | with_reducible exact i64_in _ (by omega) (by omega) | with_reducible exact wrap8_in _ (by omega) (by omega) | with_reducible exact u64_in _ (by omega) (by omega) | with_reducible exact shr16 _ | with_reducible exact shr8 _ | with_reducible exact wrap8_mod _))
       | ((with_reducible apply G.pure); rfl; rfl; rfl; rfl; rfl)
       | ((with_reducible apply G.split); rfl; rfl; rfl; all_goals (intro h; first | replace h := beq_t h | replace h := beq_f h | replace h := bne_t h | replace h := bne_f h | replace h := of_decide_eq_true h | replace h := of_decide_eq_false h | skip)))
    | with_reducible apply RG.done | with_reducible apply Q.tn | with_reducible apply Q.tr | with_reducible apply Q.te | with_reducible apply Q.bn | with_reducible apply Q.br | with_reducible apply Q.be | ((with_reducible apply Q.bx); decide) | with_reducible apply Q.tp | with_reducible apply Q.bp
    | with_reducible apply SW.seq | with_reducible apply SW.block | with_reducible apply SW.ret | with_reducible apply SW.skip | with_reducible apply SW.exit
    | ((with_reducible apply SW.cond1); rfl; (focus (first | rfl | exact decide_eq_true (by omega) | exact decide_eq_false (by omega)))) | ((with_reducible apply SW.cond0); rfl; (focus (first | rfl | exact decide_eq_true (by omega) | exact decide_eq_false (by omega))))
    | ((with_reducible apply SW.cond); rfl; all_goals (intro h; first | replace h := beq_t h | replace h := beq_f h | replace h := bne_t h | replace h := bne_f h | replace h := of_decide_eq_true h | replace h := of_decide_eq_false h | skip))
    | ((with_reducible apply SW.region0); kernel_rfl; rfl))
  all_goals first | (apply Q.xp; exact Rems.all; exact ⟨hLn, rfl, rfl⟩) | (apply Q.xr; apply Q.ret (.cons (.tmp rfl) .nil); exact Rems.all; refine ⟨hLn, _, hj2, rfl, _, _, rfl, ?_, by omega⟩; exact has_drop hs hL hLn hc)

def insAt (bs : List Int) (j : Nat) : IV := (numOf ((bs.drop (1 + 4 * j)).take 1), numOf (((bs.drop (1 + 4 * j)).drop 1).take 3))
def decTo (bs : List Int) (j : Nat) : List IV := (List.range j).map (insAt bs)
theorem decTo_succ {bs : List Int} {j : Nat} {x y : Int} (hx : x = numOf ((bs.drop (1 + 4 * j)).take 1)) (hy : y = numOf (((bs.drop (1 + 4 * j)).drop 1).take 3)) : cellsI (decTo bs j) ++ [.int .i64 x, .int .i64 y] = cellsI (decTo bs (j + 1)) := by
  subst hx; subst hy
  simp [decTo, cellsI, List.range_succ, insC, insAt]
theorem decTo_len (bs : List Int) (j : Nat) : (decTo bs j).length = j := by simp [decTo]
@[irreducible] def dec (bs : List Int) : Option (List IV) :=
  match bs with
  | [] => none
  | n :: _ => if bs.length = 1 + 4 * n.toNat then if (chk (decTo bs n.toNat)).1 = 0 then some (decTo bs n.toNat) else none else none
theorem dec_nil {bs : List Int} (h : bs.length < 1) : dec bs = none := by
  have : bs = [] := List.eq_nil_of_length_eq_zero (by omega)
  subst this; unfold dec; rfl
theorem dec_len {bs : List Int} {n : Nat} (hn : (n : Int) = numOf (bs.take 1)) (h0 : 1 ≤ bs.length) (h : ¬ bs.length = 1 + 4 * n) : dec bs = none := by
  match bs, h0 with
  | m :: l, _ =>
    have : (n : Int) = m := by rw [hn]; simp [numOf]
    subst this
    unfold dec
    simp only [Int.toNat_natCast]
    rw [if_neg h]
theorem dec_chk {bs : List Int} {n : Nat} (hn : (n : Int) = numOf (bs.take 1)) (h0 : 1 ≤ bs.length) (h : bs.length = 1 + 4 * n) : dec bs = if (chk (decTo bs n)).1 = 0 then some (decTo bs n) else none := by
  match bs, h0 with
  | m :: l, _ =>
    have : (n : Int) = m := by rw [hn]; simp [numOf]
    subst this
    unfold dec
    simp only [Int.toNat_natCast]
    rw [if_pos h]
theorem one_byte {bs : List Int} {x : Int} (hx : x = numOf (bs.take 1)) (h : 1 ≤ bs.length) (hb : ∀ x ∈ bs, Byte x) : ∃ n : Nat, x = n ∧ n < 256 := by
  match bs, h with
  | m :: l, _ =>
    have hm := hb m (List.mem_cons_self ..)
    obtain ⟨h1, h2⟩ := hm
    have : x = m := by rw [hx]; simp [numOf]
    exact ⟨x.toNat, by omega, by omega⟩
theorem oneI (l : List IV) : oneB (cellsI l) = true := by
  induction l with
  | nil => rfl
  | cons x l ih => simpa [cellsI, insC, oneB, Value.oneCell'] using ih
theorem cellsI_len (l : List IV) : (cellsI l).length = l.length * 2 := flat_length insC insC_len l
def DecR (bs : List Int) (H : Hp) (u : Value) (H' : Hp) : Prop :=
  (dec bs = none ∧ u = .tuple #[.slice none 0 0, .int .i64 3] ∧ H' = H) ∨
  ∃ l v, dec bs = some l ∧ u = .tuple #[.slice (oA v) l.length (oC v), .int .i64 0] ∧ H' = oH 31 v (cellsI l) H ∧ OOk 2 v l.length (cellsI l)
theorem bytes_of_drop {bs : List Int} (hb : ∀ x ∈ bs, Byte x) (k : Nat) : ∀ x ∈ bs.drop k, Byte x := fun x hx => hb x (List.mem_of_mem_drop hx)

set_option maxHeartbeats 400000 in
set_option maxRecDepth 4000 in
theorem rec_back (H : Hp) (p q : Value) : CD Try.prog 26 #[p, q] .returning .returning H H := by
  refine CD.of_sw Try.func26 rfl Try.ntmps26 (Nat.le_of_ble_eq_true rfl) rfl (by decide) .back fun C => ?_
  repeat' (first
    | ((with_reducible apply G.at); rfl; first
       | ((with_reducible apply G.move); rfl; rfl) | ((with_reducible apply G.assign); rfl; rfl)
       | ((with_reducible apply G.load0); rfl; rfl; (focus (repeat (first | exact List.Mem.head _ | assumption | apply List.Mem.tail | apply mem_oH))); rfl) | ((with_reducible apply G.load1); rfl; rfl; (focus (repeat (first | exact List.Mem.head _ | assumption | apply List.Mem.tail | apply mem_oH))); rfl)
       | ((with_reducible apply G.faddrh (k := 0)); rfl; rfl; rfl) | ((with_reducible apply G.faddrh (k := 1)); rfl; rfl; rfl) | ((with_reducible apply G.faddrh (k := 2)); rfl; rfl; rfl) | ((with_reducible apply G.faddrh (k := 3)); rfl; rfl; rfl) | ((with_reducible apply G.faddrh (k := 4)); rfl; rfl; rfl) | ((with_reducible apply G.faddrh (k := 5)); rfl; rfl; rfl) | ((with_reducible apply G.faddrh (k := 6)); rfl; rfl; rfl) | ((with_reducible apply G.faddrh (k := 7)); rfl; rfl; rfl)
       | ((with_reducible apply G.nilck); rfl; rfl) | ((with_reducible apply G.extract); rfl; rfl; rfl) | ((with_reducible apply G.len); rfl; rfl; rfl) | ((with_reducible apply G.pick1); rfl; rfl; rfl) | ((with_reducible apply G.pick0); rfl; rfl; rfl) | ((with_reducible apply G.unw); rfl) | ((with_reducible apply G.unw0); rfl)
       | ((with_reducible apply G.boxa); rfl; rfl; intro b) | ((with_reducible apply G.box); rfl; rfl; intro b) | ((with_reducible apply G.alloc); rfl; rfl; rfl; intro b)
       | ((with_reducible apply G.store); rfl; rfl; rfl; rfl; rfl; rfl; (focus (repeat (first | assumption | exact Rem.here | apply Rem.there | apply Rem.oH))); (exact Nat.le_of_ble_eq_true rfl); (focus (repeat (first | exact StOk.nil | (refine StOk.keep ?_ ?_; (focus ((repeat (first | exact List.Mem.head _ | assumption | apply List.Mem.tail | apply mem_oH)); done))) | refine StOk.gone (by kernel_rfl) ?_))); rfl)
       | ((with_reducible apply G.build); rfl; rfl; rfl) | ((with_reducible apply G.eqs); rfl; rfl; rfl; rfl; (kernel_rfl); (kernel_rfl)) | ((with_reducible apply G.nes); rfl; rfl; rfl; rfl; (kernel_rfl); (kernel_rfl))
       | ((with_reducible apply G.num); rfl; rfl; rfl; rfl; rfl; (first | with_reducible exact shl8 _ (by omega) (by omega) | with_reducible exact shl16 _ (by omega) (by omega) | with_reducible exact or8 (by omega) (by omega) (by omega) (by omega) | with_reducible exact or16 (by omega) (by omega) (by omega) (by omega) | with_reducible exact or24 (by omega) (by omega) (by omega) (by omega) (by omega) (by omega) | with_reducible exact i64_in _ (by omega) (by omega) | with_reducible exact wrap8_in _ (by omega) (by omega) | with_reducible exact u64_in _ (by omega) (by omega) | with_reducible exact shr16 _ | with_reducible exact shr8 _ | with_reducible exact wrap8_mod _))
       | ((with_reducible apply G.pure); rfl; rfl; rfl; rfl; rfl)
       | ((with_reducible apply G.split); rfl; rfl; rfl; all_goals (intro h; first | replace h := beq_t h | replace h := beq_f h | replace h := bne_t h | replace h := bne_f h | replace h := of_decide_eq_true h | replace h := of_decide_eq_false h | skip)))
    | with_reducible apply RG.done | with_reducible apply Q.tn | with_reducible apply Q.tr | with_reducible apply Q.te | with_reducible apply Q.bn | with_reducible apply Q.br | with_reducible apply Q.be | ((with_reducible apply Q.bx); decide) | with_reducible apply Q.tp | with_reducible apply Q.bp
    | with_reducible apply SW.seq | with_reducible apply SW.block | with_reducible apply SW.ret | with_reducible apply SW.skip | with_reducible apply SW.exit
    | ((with_reducible apply SW.cond1); rfl; (focus (rfl))) | ((with_reducible apply SW.cond0); rfl; (focus (rfl)))
    | ((with_reducible apply SW.cond); rfl; all_goals (intro h; first | replace h := beq_t h | replace h := beq_f h | replace h := bne_t h | replace h := bne_f h | replace h := of_decide_eq_true h | replace h := of_decide_eq_false h | skip))
    | ((with_reducible apply SW.region0); kernel_rfl; rfl))
  all_goals (apply Q.cdn; exact Rems.all)
set_option maxHeartbeats 400000 in
set_option maxRecDepth 4000 in
theorem rec_caught (H F0 F1 : Hp) (b0 b1 : Nat) (v0 v1 : Value) (h0 : Rem H (b0, .row 22 [v0] 0) F0) (h1 : Rem F0 (b1, .row 24 [v1] 0) F1) : CD Try.prog 26 #[.pointer (some ⟨b0, 0, none⟩), .pointer (some ⟨b1, 0, none⟩)] (.panicking faultCh) (.panicking [{ v := faultV, recovered := true }]) H ((b1, .row 24 [.int .i64 3] 0) :: (b0, .row 22 [.slice none 0 0] 0) :: F1) := by
  refine CD.of_sw Try.func26 rfl Try.ntmps26 (Nat.le_of_ble_eq_true rfl) rfl (by decide) .caught fun C => ?_
  repeat' (first
    | ((with_reducible apply G.at); rfl; first
       | ((with_reducible apply G.move); rfl; rfl) | ((with_reducible apply G.assign); rfl; rfl)
       | ((with_reducible apply G.load0); rfl; rfl; (focus (repeat (first | exact List.Mem.head _ | assumption | apply List.Mem.tail | apply mem_oH))); rfl) | ((with_reducible apply G.load1); rfl; rfl; (focus (repeat (first | exact List.Mem.head _ | assumption | apply List.Mem.tail | apply mem_oH))); rfl)
       | ((with_reducible apply G.faddrh (k := 0)); rfl; rfl; rfl) | ((with_reducible apply G.faddrh (k := 1)); rfl; rfl; rfl) | ((with_reducible apply G.faddrh (k := 2)); rfl; rfl; rfl) | ((with_reducible apply G.faddrh (k := 3)); rfl; rfl; rfl) | ((with_reducible apply G.faddrh (k := 4)); rfl; rfl; rfl) | ((with_reducible apply G.faddrh (k := 5)); rfl; rfl; rfl) | ((with_reducible apply G.faddrh (k := 6)); rfl; rfl; rfl) | ((with_reducible apply G.faddrh (k := 7)); rfl; rfl; rfl)
       | ((with_reducible apply G.nilck); rfl; rfl) | ((with_reducible apply G.extract); rfl; rfl; rfl) | ((with_reducible apply G.len); rfl; rfl; rfl) | ((with_reducible apply G.pick1); rfl; rfl; rfl) | ((with_reducible apply G.pick0); rfl; rfl; rfl) | ((with_reducible apply G.unw); rfl) | ((with_reducible apply G.unw0); rfl)
       | ((with_reducible apply G.boxa); rfl; rfl; intro b) | ((with_reducible apply G.box); rfl; rfl; intro b) | ((with_reducible apply G.alloc); rfl; rfl; rfl; intro b)
       | ((with_reducible apply G.store); rfl; rfl; rfl; rfl; rfl; rfl; (focus (repeat (first | assumption | exact Rem.here | apply Rem.there | apply Rem.oH))); (exact Nat.le_of_ble_eq_true rfl); (focus (repeat (first | exact StOk.nil | (refine StOk.keep ?_ ?_; (focus ((repeat (first | exact List.Mem.head _ | assumption | apply List.Mem.tail | apply mem_oH)); done))) | refine StOk.gone (by kernel_rfl) ?_))); rfl)
       | ((with_reducible apply G.build); rfl; rfl; rfl) | ((with_reducible apply G.eqs); rfl; rfl; rfl; rfl; (kernel_rfl); (kernel_rfl)) | ((with_reducible apply G.nes); rfl; rfl; rfl; rfl; (kernel_rfl); (kernel_rfl))
       | ((with_reducible apply G.num); rfl; rfl; rfl; rfl; rfl; (first | with_reducible exact shl8 _ (by omega) (by omega) | with_reducible exact shl16 _ (by omega) (by omega) | with_reducible exact or8 (by omega) (by omega) (by omega) (by omega) | with_reducible exact or16 (by omega) (by omega) (by omega) (by omega) | with_reducible exact or24 (by omega) (by omega) (by omega) (by omega) (by omega) (by omega) | with_reducible exact i64_in _ (by omega) (by omega) | with_reducible exact wrap8_in _ (by omega) (by omega) | with_reducible exact u64_in _ (by omega) (by omega) | with_reducible exact shr16 _ | with_reducible exact shr8 _ | with_reducible exact wrap8_mod _))
       | ((with_reducible apply G.pure); rfl; rfl; rfl; rfl; rfl)
       | ((with_reducible apply G.split); rfl; rfl; rfl; all_goals (intro h; first | replace h := beq_t h | replace h := beq_f h | replace h := bne_t h | replace h := bne_f h | replace h := of_decide_eq_true h | replace h := of_decide_eq_false h | skip)))
    | with_reducible apply RG.done | with_reducible apply Q.tn | with_reducible apply Q.tr | with_reducible apply Q.te | with_reducible apply Q.bn | with_reducible apply Q.br | with_reducible apply Q.be | ((with_reducible apply Q.bx); decide) | with_reducible apply Q.tp | with_reducible apply Q.bp
    | with_reducible apply SW.seq | with_reducible apply SW.block | with_reducible apply SW.ret | with_reducible apply SW.skip | with_reducible apply SW.exit
    | ((with_reducible apply SW.cond1); rfl; (focus (rfl))) | ((with_reducible apply SW.cond0); rfl; (focus (rfl)))
    | ((with_reducible apply SW.cond); rfl; all_goals (intro h; first | replace h := beq_t h | replace h := beq_f h | replace h := bne_t h | replace h := bne_f h | replace h := of_decide_eq_true h | replace h := of_decide_eq_false h | skip))
    | ((with_reducible apply SW.region0); kernel_rfl; rfl))
  all_goals (apply Q.cdn; (focus (repeat (first | exact Rems.all | exact Rems.nil | (apply Rems.own; (focus (repeat (first | exact OIn.here | apply OIn.there | apply OIn.over)))) | (apply Rems.cons; (focus (repeat (first | assumption | exact Rem.here | apply Rem.there | apply Rem.oH)))) | apply Rems.skip | apply Rems.oskip))))

theorem check_n {G : Hp} {a : Option Addr} {c k : Nat} {l : List IV} (h : Has G a (cellsI l)) (hk : l.length = k) : RC Try.prog 13 #[.slice a k c] G (.tuple #[.int .i64 (chk l).1, .int .i64 (chk l).2]) := by subst hk; exact check_rc G a c l h
theorem drop_on {H : Hp} {a : Option Addr} {bs : List Int} {j : Nat} (h : Has H a (bytesV (((bs.drop (1 + 4 * j)).drop 1).drop 3))) : Has H a (bytesV (bs.drop (1 + 4 * (j + 1)))) := by
  rw [List.drop_drop, List.drop_drop] at h
  rw [show 1 + 4 * (j + 1) = 1 + 4 * j + (1 + 3) by omega]; exact h

set_option maxHeartbeats 400000 in
set_option maxRecDepth 4000 in
theorem decode_oc (H : Hp) (a : Option Addr) (c : Nat) (bs : List Int) (hs : Has H a (bytesV bs)) (hb : ∀ x ∈ bs, Byte x) (hc : bs.length ≤ c) : OC Try.prog 21 #[.slice a bs.length c] H (DecR bs H) := by
  refine OC.of_dw Try.func21 rfl Try.ntmps21 (Nat.le_of_ble_eq_true rfl) (by decide) Try.call26 fun C => ?_
  repeat' (first
    | ((with_reducible apply Q.dws); rfl)
    | ((with_reducible apply SW.bloopI (id := 0) (α := (Nat × Option Addr × Nat × Nat × Own)) (Inv := (fun (s : Nat × Option Addr × Nat × Nat × Own) => s.1 ≤ n ∧ (1 + 4 * s.1 ≤ bs.length ∧ s.2.2.1 = bs.length - (1 + 4 * s.1)) ∧ Has H s.2.1 (bytesV (bs.drop (1 + 4 * s.1))) ∧ s.2.2.1 ≤ s.2.2.2.1 ∧ OOk 2 s.2.2.2.2 s.1 (cellsI (decTo bs s.1)))) (I := (fun (s : Nat × Option Addr × Nat × Nat × Own) => match s with | (j, a', L', c', v) => [(2, .pointer (some ⟨b0, 0, none⟩)), (3, .pointer (some ⟨b1, 0, none⟩)), (4, .pointer (some ⟨br, 0, none⟩)), (11, .int .i64 n), (12, .int .i64 (j : Nat))])) (J := (fun (s : Nat × Option Addr × Nat × Nat × Own) => match s with | (j, a', L', c', v) => (br, AObj.row 59 [.slice a' L' c'] 0) :: oH 31 v (cellsI (decTo bs j)) ((b1, .row 24 [.int .i64 0] 0) :: (b0, .row 22 [.slice (oA v) j (oC v)] 0) :: H))) (μ := (fun s => n - s.1)) (x0 := (0, a1, bs.length - 1, c1, none))); (exact ⟨Nat.zero_le _, ⟨h1, rfl⟩, hs1, hc1, OOk.nil⟩); (apply Exists.intro; apply And.intro; (focus (repeat (first | exact trivial | refine ⟨rfl, ?_⟩))); (focus (repeat (first | exact Rems.all | exact Rems.nil | (apply Rems.own; (focus (repeat (first | exact OIn.here | apply OIn.there | apply OIn.over)))) | (apply Rems.cons; (focus (repeat (first | assumption | exact Rem.here | apply Rem.there | apply Rem.oH)))) | apply Rems.skip | apply Rems.oskip)))); (rintro ⟨j, a', L', c', v⟩ hj; obtain ⟨hj1, ⟨hj2, hjL⟩, hj3, hj4, hj5⟩ := hj; dsimp only at hj1 hj2 hjL hj3 hj4 hj5; rcases Nat.lt_or_ge j n with hlt | hge; (case' inr => (obtain rfl : j = n := by omega))))
    | ((refine Exists.intro (j + 1, a3, L' - 1 - 3, c3, v') ?_); (apply Exists.intro); (refine ⟨?_, ?_, ?_, ?_⟩); (exact ⟨by (try dsimp only); omega, ⟨by (try dsimp only); omega, by (try dsimp only); omega⟩, drop_on hs3, by assumption, hv'⟩); (focus (repeat (first | exact trivial | refine ⟨rfl, ?_⟩))); (focus (repeat (first | exact Rems.all | exact Rems.nil | (apply Rems.own; (focus (repeat (first | exact OIn.here | apply OIn.there | apply OIn.over)))) | (apply Rems.cons; (focus (repeat (first | assumption | exact Rem.here | apply Rem.there | apply Rem.oH)))) | apply Rems.skip | apply Rems.oskip))); ((try dsimp only); omega))
    | ((with_reducible apply G.at); rfl; first
       | ((with_reducible apply G.move); rfl; rfl) | ((with_reducible apply G.assign); rfl; rfl)
       | ((with_reducible apply G.load0); rfl; rfl; (focus (repeat (first | exact List.Mem.head _ | assumption | apply List.Mem.tail | apply mem_oH))); rfl) | ((with_reducible apply G.load1); rfl; rfl; (focus (repeat (first | exact List.Mem.head _ | assumption | apply List.Mem.tail | apply mem_oH))); rfl)
       | ((with_reducible apply G.loadS0); rfl; rfl; (focus (repeat (first | assumption | exact Has.row (List.Mem.head _) | (apply Has.mine; assumption) | apply Has.tail | apply Has.oH | exact Has.nil))); assumption; (first | assumption | rfl)) | ((with_reducible apply G.loadS1); rfl; rfl; (first | assumption | exact Has.row (List.Mem.head _)); (focus (intro p hp; repeat (first | assumption | apply List.Mem.tail | apply mem_oH))); assumption; (first | assumption | rfl); intro _ _ _)
       | ((with_reducible apply G.faddrh (k := 0)); rfl; rfl; rfl) | ((with_reducible apply G.faddrh (k := 1)); rfl; rfl; rfl) | ((with_reducible apply G.faddrh (k := 2)); rfl; rfl; rfl) | ((with_reducible apply G.faddrh (k := 3)); rfl; rfl; rfl) | ((with_reducible apply G.faddrh (k := 4)); rfl; rfl; rfl) | ((with_reducible apply G.faddrh (k := 5)); rfl; rfl; rfl) | ((with_reducible apply G.faddrh (k := 6)); rfl; rfl; rfl) | ((with_reducible apply G.faddrh (k := 7)); rfl; rfl; rfl)
       | ((with_reducible apply G.faddrS (d := 0)); rfl; rfl; rfl; assumption) | ((with_reducible apply G.faddrS (d := 1)); rfl; rfl; rfl; assumption) | ((with_reducible apply G.faddrS (d := 2)); rfl; rfl; rfl; assumption) | ((with_reducible apply G.faddrS (d := 3)); rfl; rfl; rfl; assumption) | ((with_reducible apply G.faddrS (d := 4)); rfl; rfl; rfl; assumption) | ((with_reducible apply G.faddrS (d := 5)); rfl; rfl; rfl; assumption) | ((with_reducible apply G.faddrS (d := 6)); rfl; rfl; rfl; assumption) | ((with_reducible apply G.faddrS (d := 7)); rfl; rfl; rfl; assumption)
       | ((with_reducible apply G.alloc (e := 22)); rfl; rfl; rfl; intro b0)
       | ((with_reducible apply G.alloc (e := 24)); rfl; rfl; rfl; intro b1)
       | ((with_reducible apply G.boxa (e := 59)); rfl; rfl; intro br)
       | ((with_reducible apply G.bslice); rfl; rfl; intro b)
       | ((with_reducible apply G.appendO (size := 2) (bytes := 16) (cs' := cellsI (decTo bs (j + 1))) (n' := (j + 1))); rfl; rfl; rfl; rfl; rfl; (focus (repeat (first | exact OIn.here | apply OIn.there | apply OIn.over))); assumption; (focus ((focus (repeat (first | assumption | exact Has.row (List.Mem.head _) | (apply Has.mine; assumption) | apply Has.tail | apply Has.oH | exact Has.nil))))); (focus (rfl)); (focus (rfl)); (first | rfl | omega); (focus (exact decTo_succ hx hy)); (focus (first | omega | (simp; omega))); (focus (first | omega | (simp; omega))); (focus (repeat (first | exact StOk.nil | (refine StOk.keep ?_ ?_; (focus ((repeat (first | exact List.Mem.head _ | assumption | apply List.Mem.tail | apply mem_oH)); done))) | refine StOk.gone (by kernel_rfl) ?_))); (intro v' hv'))
       | ((with_reducible apply G.xcall (f := 27)); rfl; rfl; exact Try.call27; ((apply number_xc (B := H) (n := 1) (bs := bs)); (focus (repeat (first | assumption | exact Rem.here | apply Rem.there | apply Rem.oH))); (focus (intro p hp; repeat (first | assumption | apply List.Mem.tail | apply mem_oH))); (first | rfl | exact List.length_drop | (simp; omega)); (first | assumption | (exact hs)); exact hb; assumption; decide); (rintro _ _ ⟨h1, z, hz, rfl, a1, c1, rfl, hs1, hc1⟩; obtain ⟨n, rfl, hn⟩ := one_byte hz h1 hb; (focus (repeat (first | exact StOk.nil | (refine StOk.keep ?_ ?_; (focus ((repeat (first | exact List.Mem.head _ | assumption | apply List.Mem.tail | apply mem_oH)); done))) | refine StOk.gone (by kernel_rfl) ?_)))); (case' next => (rintro _ _ ⟨h1, z, hz, rfl, a1, c1, rfl, hs1, hc1⟩; obtain ⟨n, rfl, hn⟩ := one_byte hz h1 hb)); (case' nextp => (rintro _ _ ⟨h1, rfl, rfl⟩)))
       | ((with_reducible apply G.xcall (f := 27)); rfl; rfl; exact Try.call27; ((apply number_xc (B := H) (n := 1) (bs := bs.drop (1 + 4 * j))); (focus (repeat (first | assumption | exact Rem.here | apply Rem.there | apply Rem.oH))); (focus (intro p hp; repeat (first | assumption | apply List.Mem.tail | apply mem_oH))); (first | rfl | exact List.length_drop | (simp; omega)); (first | assumption | (exact hs)); exact (bytes_of_drop hb _); assumption; decide); (rintro _ _ ⟨h2, x, hx, rfl, a2, c2, rfl, hs2, hc2⟩; (focus (repeat (first | exact StOk.nil | (refine StOk.keep ?_ ?_; (focus ((repeat (first | exact List.Mem.head _ | assumption | apply List.Mem.tail | apply mem_oH)); done))) | refine StOk.gone (by kernel_rfl) ?_)))); (case' next => (rintro _ _ ⟨h2, x, hx, rfl, a2, c2, rfl, hs2, hc2⟩)); (case' nextp => (rintro _ _ ⟨h2, rfl, rfl⟩)))
       | ((with_reducible apply G.xcall (f := 27)); rfl; rfl; exact Try.call27; ((apply number_xc (B := H) (n := 3) (bs := (bs.drop (1 + 4 * j)).drop 1)); (focus (repeat (first | assumption | exact Rem.here | apply Rem.there | apply Rem.oH))); (focus (intro p hp; repeat (first | assumption | apply List.Mem.tail | apply mem_oH))); (first | rfl | exact List.length_drop | (simp; omega)); (first | assumption | (exact hs)); exact (bytes_of_drop (bytes_of_drop hb _) _); assumption; decide); (rintro _ _ ⟨h3, y, hy, rfl, a3, c3, rfl, hs3, hc3⟩; (focus (repeat (first | exact StOk.nil | (refine StOk.keep ?_ ?_; (focus ((repeat (first | exact List.Mem.head _ | assumption | apply List.Mem.tail | apply mem_oH)); done))) | refine StOk.gone (by kernel_rfl) ?_)))); (case' next => (rintro _ _ ⟨h3, y, hy, rfl, a3, c3, rfl, hs3, hc3⟩)); (case' nextp => (rintro _ _ ⟨h3, rfl, rfl⟩)))
       | ((with_reducible apply G.xcall (f := 28)); rfl; rfl; exact Try.call28; (exact must_xc _ _); (rintro _ _ ⟨hok, rfl, rfl⟩; replace hok := beq_t hok; (focus (repeat (first | exact StOk.nil | (refine StOk.keep ?_ ?_; (focus ((repeat (first | exact List.Mem.head _ | assumption | apply List.Mem.tail | apply mem_oH)); done))) | refine StOk.gone (by kernel_rfl) ?_)))); (case' next => (rintro _ _ ⟨hok, rfl, rfl⟩; replace hok := beq_t hok)); (case' nextp => (rintro _ _ ⟨hok, rfl, rfl⟩; replace hok := beq_f hok)))
       | ((with_reducible apply G.rcall (f := 13)); rfl; rfl; exact Try.call13; ((apply check_n (l := decTo bs _)); (focus (repeat (first | assumption | exact Has.row (List.Mem.head _) | (apply Has.mine; assumption) | apply Has.tail | apply Has.oH | exact Has.nil))); exact decTo_len _ _); (focus (repeat (first | exact StOk.nil | (refine StOk.keep ?_ ?_; (focus ((repeat (first | exact List.Mem.head _ | assumption | apply List.Mem.tail | apply mem_oH)); done))) | refine StOk.gone (by kernel_rfl) ?_))))
       | ((with_reducible apply G.nilck); rfl; rfl) | ((with_reducible apply G.extract); rfl; rfl; rfl) | ((with_reducible apply G.len); rfl; rfl; rfl) | ((with_reducible apply G.pick1); rfl; rfl; rfl) | ((with_reducible apply G.pick0); rfl; rfl; rfl) | ((with_reducible apply G.unw); rfl) | ((with_reducible apply G.unw0); rfl)
       | ((with_reducible apply G.boxa); rfl; rfl; intro b) | ((with_reducible apply G.box); rfl; rfl; intro b) | ((with_reducible apply G.alloc); rfl; rfl; rfl; intro b)
       | ((with_reducible apply G.store); rfl; rfl; rfl; rfl; rfl; rfl; (focus (repeat (first | assumption | exact Rem.here | apply Rem.there | apply Rem.oH))); (exact Nat.le_of_ble_eq_true rfl); (focus (repeat (first | exact StOk.nil | (refine StOk.keep ?_ ?_; (focus ((repeat (first | exact List.Mem.head _ | assumption | apply List.Mem.tail | apply mem_oH)); done))) | refine StOk.gone (by kernel_rfl) ?_))); rfl)
       | ((with_reducible apply G.build); rfl; rfl; rfl) | ((with_reducible apply G.eqs); rfl; rfl; rfl; rfl; (kernel_rfl); (kernel_rfl)) | ((with_reducible apply G.nes); rfl; rfl; rfl; rfl; (kernel_rfl); (kernel_rfl))
       | ((with_reducible apply G.num); rfl; rfl; rfl; rfl; rfl; (first | with_reducible exact shl8 _ (by omega) (by omega) | with_reducible exact shl16 _ (by omega) (by omega) | with_reducible exact or8 (by omega) (by omega) (by omega) (by omega) | with_reducible exact or16 (by omega) (by omega) (by omega) (by omega) | with_reducible exact or24 (by omega) (by omega) (by omega) (by omega) (by omega) (by omega) | with_reducible exact i64_in _ (by omega) (by omega) | with_reducible exact wrap8_in _ (by omega) (by omega) | with_reducible exact u64_in _ (by omega) (by omega) | with_reducible exact shr16 _ | with_reducible exact shr8 _ | with_reducible exact wrap8_mod _))
       | ((with_reducible apply G.pure); rfl; rfl; rfl; rfl; rfl)
       | ((with_reducible apply G.split); rfl; rfl; rfl; all_goals (intro h; first | replace h := beq_t h | replace h := beq_f h | replace h := bne_t h | replace h := bne_f h | replace h := of_decide_eq_true h | replace h := of_decide_eq_false h | skip)))
    | with_reducible apply RG.done | with_reducible apply Q.tn | with_reducible apply Q.tr | with_reducible apply Q.te | with_reducible apply Q.bn | with_reducible apply Q.br | with_reducible apply Q.be | ((with_reducible apply Q.bx); decide) | with_reducible apply Q.tp | with_reducible apply Q.bp
    | with_reducible apply SW.seq | with_reducible apply SW.block | with_reducible apply SW.ret | with_reducible apply SW.skip | with_reducible apply SW.exit
    | ((with_reducible apply SW.cond1); rfl; (focus (first | rfl | exact decide_eq_true (by omega) | exact decide_eq_false (by omega)))) | ((with_reducible apply SW.cond0); rfl; (focus (first | rfl | exact decide_eq_true (by omega) | exact decide_eq_false (by omega))))
    | ((with_reducible apply SW.cond); rfl; all_goals (intro h; first | replace h := beq_t h | replace h := beq_f h | replace h := bne_t h | replace h := bne_f h | replace h := of_decide_eq_true h | replace h := of_decide_eq_false h | skip))
    | ((with_reducible apply SW.region0); kernel_rfl; rfl)
    | ((with_reducible apply SW.region1 (id := 6) [0, 1, 2, 3, 4, 5, 6, 7]); rfl; kernel_rfl))
  all_goals first
    | ((apply Q.dfp (H' := H)); (focus ((apply rec_caught); (focus (repeat (first | assumption | exact Rem.here | apply Rem.there | apply Rem.oH))); (focus (repeat (first | assumption | exact Rem.here | apply Rem.there | apply Rem.oH))))); exact (.cons (by first | exact .tmp rfl | exact .cell rfl (by repeat (first | exact List.Mem.head _ | apply List.Mem.tail)) rfl) (.cons (by first | exact .tmp rfl | exact .cell rfl (by repeat (first | exact List.Mem.head _ | apply List.Mem.tail)) rfl) .nil)); (focus (repeat (first | exact Rems.all | exact Rems.nil | (apply Rems.own; (focus (repeat (first | exact OIn.here | apply OIn.there | apply OIn.over)))) | (apply Rems.cons; (focus (repeat (first | assumption | exact Rem.here | apply Rem.there | apply Rem.oH)))) | apply Rems.skip | apply Rems.oskip))); refine .inl ⟨?_, rfl, rfl⟩; first | (apply dec_nil; assumption) | (apply dec_len hz h1; omega) | (rw [dec_chk hz h1 (by omega), if_neg (by assumption)]))
    | ((apply Q.dfr (H' := oH 31 v (cellsI (decTo bs j)) H)); exact rec_back _ _ _; exact (.cons (by first | exact .tmp rfl | exact .cell rfl (by repeat (first | exact List.Mem.head _ | apply List.Mem.tail)) rfl) (.cons (by first | exact .tmp rfl | exact .cell rfl (by repeat (first | exact List.Mem.head _ | apply List.Mem.tail)) rfl) .nil)); (focus (repeat (first | exact Rems.all | exact Rems.nil | (apply Rems.own; (focus (repeat (first | exact OIn.here | apply OIn.there | apply OIn.over)))) | (apply Rems.cons; (focus (repeat (first | assumption | exact Rem.here | apply Rem.there | apply Rem.oH)))) | apply Rems.skip | apply Rems.oskip))); refine .inr ⟨decTo bs _, v, by rw [dec_chk hz h1 (by omega), if_pos (by assumption)], ?_, rfl, ?_⟩; (rw [decTo_len]; rfl); (rw [decTo_len]; assumption))

theorem num1 {bs : List Int} {k : Nat} {x : Int} (h : bs[k]? = some x) : x = numOf ((bs.drop k).take 1) := by
  have h1 : (bs.drop k)[0]? = some x := by rw [List.getElem?_drop]; exact h
  cases hd : bs.drop k with
  | nil => rw [hd] at h1; simp at h1
  | cons y l => rw [hd] at h1; simp at h1; subst h1; simp [numOf]
theorem num3 {bs : List Int} {k : Nat} {x y z : Int} (hx : bs[k + 1]? = some x) (hy : bs[k + 2]? = some y) (hz : bs[k + 3]? = some z) : x * 65536 + y * 256 + z = numOf (((bs.drop k).drop 1).take 3) := by
  rw [List.drop_drop]
  have h1 : (bs.drop (k + 1))[0]? = some x := by rw [List.getElem?_drop]; exact hx
  have h2 : (bs.drop (k + 1))[1]? = some y := by rw [List.getElem?_drop]; exact hy
  have h3 : (bs.drop (k + 1))[2]? = some z := by rw [List.getElem?_drop]; exact hz
  match hd : bs.drop (k + 1), h1, h2, h3 with
  | [], h1, _, _ => simp at h1
  | [_], _, h2, _ => simp at h2
  | [_, _], _, _, h3 => simp at h3
  | a :: b :: c :: l, h1, h2, h3 => simp at h1 h2 h3; subst h1; subst h2; subst h3; simp [numOf]; omega
theorem rcheck_n {G : Hp} {a : Option Addr} {c k : Nat} {l : List IV} (h : Has G a (cellsI l)) (hk : l.length = k) : RC Try.prog 14 #[.slice a k c] G (.tuple #[.int .i64 (chk l).1, .int .i64 (chk l).2]) := by subst hk; exact rcheck_rc G a c l h

set_option maxHeartbeats 4000000 in
set_option maxRecDepth 4000 in
theorem rdecode_oc (H : Hp) (a : Option Addr) (c : Nat) (bs : List Int) (hs : Has H a (bytesV bs)) (hb : ∀ x ∈ bs, Byte x) : OC Try.prog 22 #[.slice a bs.length c] H (DecR bs H) := by
  rcases Nat.lt_or_ge bs.length 1 with h0 | h1
  case' inr => (obtain ⟨m, hm⟩ : ∃ x, bs[0]? = some x := ⟨_, List.getElem?_eq_getElem (by omega)⟩; have em := bytes_5 hm; have nem := bytes_ne hm; obtain ⟨m1, m2⟩ := hb m (List.mem_of_getElem? hm); have ha := hs.isa nem; obtain ⟨n, rfl⟩ : ∃ n : Nat, m = n := ⟨m.toNat, by omega⟩; have hz : (n : Int) = numOf (bs.take 1) := num1 hm; by_cases hlen : bs.length = 1 + 4 * n)
  all_goals (try unfold RC)
  all_goals (try unfold DC)
  all_goals refine OC.of_sw Try.func22 rfl Try.ntmps22 (Nat.le_of_ble_eq_true rfl) fun C => ?_
  repeat' (first
    | ((with_reducible apply SW.bloopI (id := 0) (α := (Nat × Own)) (Inv := (fun (s : Nat × Own) => s.1 ≤ n ∧ OOk 2 s.2 s.1 (cellsI (decTo bs s.1)))) (I := (fun (s : Nat × Own) => match s with | (j, v) => [(0, .slice a bs.length c), (4, .slice (oA v) j (oC v)), (5, .int .i64 ((1 + 4 * j : Nat) : Int))])) (J := (fun (s : Nat × Own) => match s with | (j, v) => oH 31 v (cellsI (decTo bs j)) H)) (μ := (fun s => n - s.1)) (x0 := (0, none))); (exact ⟨Nat.zero_le _, OOk.nil⟩); (apply Exists.intro; apply And.intro; (focus (repeat (first | exact trivial | refine ⟨rfl, ?_⟩))); (focus (repeat (first | exact Rems.all | exact Rems.nil | (apply Rems.own; (focus (repeat (first | exact OIn.here | apply OIn.there | apply OIn.over)))) | (apply Rems.cons; (focus (repeat (first | assumption | exact Rem.here | apply Rem.there | apply Rem.oH)))) | apply Rems.skip | apply Rems.oskip)))); (rintro ⟨j, v⟩ hj; obtain ⟨hj1, hj2⟩ := hj; dsimp only at hj1 hj2; rcases Nat.lt_or_ge j n with hlt | hge; (case' inr => (obtain rfl : j = n := by omega)); (case' inl => (obtain ⟨x, hx⟩ : ∃ x, bs[1 + 4 * j]? = some x := ⟨_, List.getElem?_eq_getElem (by omega)⟩; have ex := bytes_5 hx; have nex := bytes_ne hx; obtain ⟨x1, x2⟩ := hb x (List.mem_of_getElem? hx); obtain ⟨y, hy⟩ : ∃ x, bs[1 + 4 * j + 1]? = some x := ⟨_, List.getElem?_eq_getElem (by omega)⟩; have ey := bytes_5 hy; have ney := bytes_ne hy; obtain ⟨y1, y2⟩ := hb y (List.mem_of_getElem? hy); obtain ⟨z', hz'⟩ : ∃ x, bs[1 + 4 * j + 2]? = some x := ⟨_, List.getElem?_eq_getElem (by omega)⟩; have ez' := bytes_5 hz'; have nez' := bytes_ne hz'; obtain ⟨z'1, z'2⟩ := hb z' (List.mem_of_getElem? hz'); obtain ⟨w, hw⟩ : ∃ x, bs[1 + 4 * j + 3]? = some x := ⟨_, List.getElem?_eq_getElem (by omega)⟩; have ew := bytes_5 hw; have new := bytes_ne hw; obtain ⟨w1, w2⟩ := hb w (List.mem_of_getElem? hw); have hn1 := num1 hx; have hn3 := num3 hy hz' hw))))
    | ((refine Exists.intro (j + 1, v') ?_); (apply Exists.intro); (refine ⟨?_, ?_, ?_, ?_⟩); (exact ⟨by (try dsimp only); omega, hv'⟩); (focus (repeat (first | exact trivial | refine ⟨rfl, ?_⟩))); (focus (repeat (first | exact Rems.all | exact Rems.nil | (apply Rems.own; (focus (repeat (first | exact OIn.here | apply OIn.there | apply OIn.over)))) | (apply Rems.cons; (focus (repeat (first | assumption | exact Rem.here | apply Rem.there | apply Rem.oH)))) | apply Rems.skip | apply Rems.oskip))); ((try dsimp only); omega))
    | ((with_reducible apply G.at); rfl; first
       | ((with_reducible apply G.move); rfl; rfl) | ((with_reducible apply G.assign); rfl; rfl)
       | ((with_reducible apply G.load0); rfl; rfl; (focus (repeat (first | exact List.Mem.head _ | assumption | apply List.Mem.tail | apply mem_oH))); rfl) | ((with_reducible apply G.load1); rfl; rfl; (focus (repeat (first | exact List.Mem.head _ | assumption | apply List.Mem.tail | apply mem_oH))); rfl)
       | ((with_reducible apply G.loadS0); rfl; rfl; (focus (repeat (first | assumption | exact Has.row (List.Mem.head _) | (apply Has.mine; assumption) | apply Has.tail | apply Has.oH | exact Has.nil))); assumption; (first | assumption | rfl)) | ((with_reducible apply G.loadS1); rfl; rfl; (first | assumption | exact Has.row (List.Mem.head _)); (focus (intro p hp; repeat (first | assumption | apply List.Mem.tail | apply mem_oH))); assumption; (first | assumption | rfl); intro _ _ _)
       | ((with_reducible apply G.faddrh (k := 0)); rfl; rfl; rfl) | ((with_reducible apply G.faddrh (k := 1)); rfl; rfl; rfl) | ((with_reducible apply G.faddrh (k := 2)); rfl; rfl; rfl) | ((with_reducible apply G.faddrh (k := 3)); rfl; rfl; rfl) | ((with_reducible apply G.faddrh (k := 4)); rfl; rfl; rfl) | ((with_reducible apply G.faddrh (k := 5)); rfl; rfl; rfl) | ((with_reducible apply G.faddrh (k := 6)); rfl; rfl; rfl) | ((with_reducible apply G.faddrh (k := 7)); rfl; rfl; rfl)
       | ((with_reducible apply G.faddrS (d := 0)); rfl; rfl; rfl; assumption) | ((with_reducible apply G.faddrS (d := 1)); rfl; rfl; rfl; assumption) | ((with_reducible apply G.faddrS (d := 2)); rfl; rfl; rfl; assumption) | ((with_reducible apply G.faddrS (d := 3)); rfl; rfl; rfl; assumption) | ((with_reducible apply G.faddrS (d := 4)); rfl; rfl; rfl; assumption) | ((with_reducible apply G.faddrS (d := 5)); rfl; rfl; rfl; assumption) | ((with_reducible apply G.faddrS (d := 6)); rfl; rfl; rfl; assumption) | ((with_reducible apply G.faddrS (d := 7)); rfl; rfl; rfl; assumption)
       | ((with_reducible apply G.iaddrS (size := 1) (j := 0)); rfl; rfl; rfl; rfl; assumption; (first | rfl | omega); (first | assumption | omega))
       | ((with_reducible apply G.iaddrS (size := 1) (j := (1 + 4 * j))); rfl; rfl; rfl; rfl; assumption; (first | rfl | omega); (first | assumption | omega))
       | ((with_reducible apply G.iaddrS (size := 1) (j := (1 + 4 * j + 1))); rfl; rfl; rfl; rfl; assumption; (first | rfl | omega); (first | assumption | omega))
       | ((with_reducible apply G.iaddrS (size := 1) (j := (1 + 4 * j + 2))); rfl; rfl; rfl; rfl; assumption; (first | rfl | omega); (first | assumption | omega))
       | ((with_reducible apply G.iaddrS (size := 1) (j := (1 + 4 * j + 3))); rfl; rfl; rfl; rfl; assumption; (first | rfl | omega); (first | assumption | omega))
       | ((with_reducible apply G.bslice); rfl; rfl; intro b)
       | ((with_reducible apply G.appendO (size := 2) (bytes := 16) (cs' := cellsI (decTo bs (j + 1))) (n' := (j + 1))); rfl; rfl; rfl; rfl; rfl; (focus (repeat (first | exact OIn.here | apply OIn.there | apply OIn.over))); assumption; (focus ((focus (repeat (first | assumption | exact Has.row (List.Mem.head _) | (apply Has.mine; assumption) | apply Has.tail | apply Has.oH | exact Has.nil))))); (focus (rfl)); (focus (rfl)); (first | rfl | omega); (focus (exact decTo_succ hn1 hn3)); (focus (first | omega | (simp; omega))); (focus (first | omega | (simp; omega))); (focus (repeat (first | exact StOk.nil | (refine StOk.keep ?_ ?_; (focus ((repeat (first | exact List.Mem.head _ | assumption | apply List.Mem.tail | apply mem_oH)); done))) | refine StOk.gone (by kernel_rfl) ?_))); (intro v' hv'))
       | ((with_reducible apply G.rcall (f := 14)); rfl; rfl; exact Try.call14; ((apply rcheck_n (l := decTo bs _)); (focus (repeat (first | assumption | exact Has.row (List.Mem.head _) | (apply Has.mine; assumption) | apply Has.tail | apply Has.oH | exact Has.nil))); exact decTo_len _ _); (focus (repeat (first | exact StOk.nil | (refine StOk.keep ?_ ?_; (focus ((repeat (first | exact List.Mem.head _ | assumption | apply List.Mem.tail | apply mem_oH)); done))) | refine StOk.gone (by kernel_rfl) ?_))))
       | ((with_reducible apply G.nilck); rfl; rfl) | ((with_reducible apply G.extract); rfl; rfl; rfl) | ((with_reducible apply G.len); rfl; rfl; rfl) | ((with_reducible apply G.pick1); rfl; rfl; rfl) | ((with_reducible apply G.pick0); rfl; rfl; rfl) | ((with_reducible apply G.unw); rfl) | ((with_reducible apply G.unw0); rfl)
       | ((with_reducible apply G.boxa); rfl; rfl; intro b) | ((with_reducible apply G.box); rfl; rfl; intro b) | ((with_reducible apply G.alloc); rfl; rfl; rfl; intro b)
       | ((with_reducible apply G.store); rfl; rfl; rfl; rfl; rfl; rfl; (focus (repeat (first | assumption | exact Rem.here | apply Rem.there | apply Rem.oH))); (exact Nat.le_of_ble_eq_true rfl); (focus (repeat (first | exact StOk.nil | (refine StOk.keep ?_ ?_; (focus ((repeat (first | exact List.Mem.head _ | assumption | apply List.Mem.tail | apply mem_oH)); done))) | refine StOk.gone (by kernel_rfl) ?_))); rfl)
       | ((with_reducible apply G.build); rfl; rfl; rfl) | ((with_reducible apply G.eqs); rfl; rfl; rfl; rfl; (kernel_rfl); (kernel_rfl)) | ((with_reducible apply G.nes); rfl; rfl; rfl; rfl; (kernel_rfl); (kernel_rfl))
       | ((with_reducible apply G.num); rfl; rfl; rfl; rfl; rfl; (first | with_reducible exact shl8 _ (by omega) (by omega) | with_reducible exact shl16 _ (by omega) (by omega) | with_reducible exact or8 (by omega) (by omega) (by omega) (by omega) | with_reducible exact or16 (by omega) (by omega) (by omega) (by omega) | with_reducible exact or24 (by omega) (by omega) (by omega) (by omega) (by omega) (by omega) | with_reducible exact i64_in _ (by omega) (by omega) | with_reducible exact wrap8_in _ (by omega) (by omega) | with_reducible exact u64_in _ (by omega) (by omega) | with_reducible exact shr16 _ | with_reducible exact shr8 _ | with_reducible exact wrap8_mod _))
       | ((with_reducible apply G.pure); rfl; rfl; rfl; rfl; rfl)
       | ((with_reducible apply G.known true); rfl; rfl; rfl; (focus (first | rfl | exact decide_eq_true (by omega) | exact decide_eq_false (by omega) | (rw [bne_eq_false_iff_eq]; omega) | exact bne_iff_ne.2 (by omega)))) | ((with_reducible apply G.known false); rfl; rfl; rfl; (focus (first | rfl | exact decide_eq_true (by omega) | exact decide_eq_false (by omega) | (rw [bne_eq_false_iff_eq]; omega) | exact bne_iff_ne.2 (by omega))))
       | ((with_reducible apply G.split); rfl; rfl; rfl; all_goals (intro h; first | replace h := beq_t h | replace h := beq_f h | replace h := bne_t h | replace h := bne_f h | replace h := of_decide_eq_true h | replace h := of_decide_eq_false h | skip)))
    | with_reducible apply RG.done | with_reducible apply Q.tn | with_reducible apply Q.tr | with_reducible apply Q.te | with_reducible apply Q.bn | with_reducible apply Q.br | with_reducible apply Q.be | ((with_reducible apply Q.bx); decide) | with_reducible apply Q.tp | with_reducible apply Q.bp
    | with_reducible apply SW.seq | with_reducible apply SW.block | with_reducible apply SW.ret | with_reducible apply SW.skip | with_reducible apply SW.exit
    | ((with_reducible apply SW.cond1); rfl; (focus (first | rfl | exact decide_eq_true (by omega) | exact decide_eq_false (by omega) | (rw [bne_eq_false_iff_eq]; omega) | exact bne_iff_ne.2 (by omega)))) | ((with_reducible apply SW.cond0); rfl; (focus (first | rfl | exact decide_eq_true (by omega) | exact decide_eq_false (by omega) | (rw [bne_eq_false_iff_eq]; omega) | exact bne_iff_ne.2 (by omega))))
    | ((with_reducible apply SW.cond); rfl; all_goals (intro h; first | replace h := beq_t h | replace h := beq_f h | replace h := bne_t h | replace h := bne_f h | replace h := of_decide_eq_true h | replace h := of_decide_eq_false h | skip))
    | ((with_reducible apply SW.region0); kernel_rfl; rfl)
    | ((with_reducible apply SW.region1 (id := 7) [0, 1, 2, 3, 4, 5, 6, 7, 8, 9, 10, 11, 12, 13, 14, 15, 16, 17, 18, 19, 20, 21, 22, 23, 24, 25, 26, 27, 28, 29, 30, 31]); rfl; kernel_rfl))
  all_goals first
    | ((apply Q.ret (H' := oH 31 v (cellsI (decTo bs j)) H) (.cons (by first | exact .tmp rfl | exact .cell rfl (by repeat (first | exact List.Mem.head _ | apply List.Mem.tail)) rfl) (.cons (by first | exact .tmp rfl | exact .cell rfl (by repeat (first | exact List.Mem.head _ | apply List.Mem.tail)) rfl) .nil))); (focus (repeat (first | exact Rems.all | exact Rems.nil | (apply Rems.own; (focus (repeat (first | exact OIn.here | apply OIn.there | apply OIn.over)))) | (apply Rems.cons; (focus (repeat (first | assumption | exact Rem.here | apply Rem.there | apply Rem.oH)))) | apply Rems.skip | apply Rems.oskip))); refine .inr ⟨decTo bs j, v, ?_, ?_, rfl, ?_⟩; (rw [dec_chk hz h1 hlen, if_pos h]); (rw [decTo_len]; rfl); (rw [decTo_len]; assumption))
    | ((apply Q.ret (H' := H) (.cons (by first | exact .tmp rfl | exact .cell rfl (by repeat (first | exact List.Mem.head _ | apply List.Mem.tail)) rfl) (.cons (by first | exact .tmp rfl | exact .cell rfl (by repeat (first | exact List.Mem.head _ | apply List.Mem.tail)) rfl) .nil))); (focus (repeat (first | exact Rems.all | exact Rems.nil | (apply Rems.own; (focus (repeat (first | exact OIn.here | apply OIn.there | apply OIn.over)))) | (apply Rems.cons; (focus (repeat (first | assumption | exact Rem.here | apply Rem.there | apply Rem.oH)))) | apply Rems.skip | apply Rems.oskip))); refine .inl ⟨?_, ?_, rfl⟩; (rw [dec_chk hz h1 hlen, if_neg h]); (rcases chk_cases (decTo bs j) with hcc | hcc; (exact absurd hcc.1 h); (show Value.tuple #[_, .int .i64 (chk (decTo bs j)).1] = _; rw [hcc])))
    | ((apply Q.ret (H' := H) (.cons (by first | exact .tmp rfl | exact .cell rfl (by repeat (first | exact List.Mem.head _ | apply List.Mem.tail)) rfl) (.cons (by first | exact .tmp rfl | exact .cell rfl (by repeat (first | exact List.Mem.head _ | apply List.Mem.tail)) rfl) .nil))); (focus (repeat (first | exact Rems.all | exact Rems.nil | (apply Rems.own; (focus (repeat (first | exact OIn.here | apply OIn.there | apply OIn.over)))) | (apply Rems.cons; (focus (repeat (first | assumption | exact Rem.here | apply Rem.there | apply Rem.oH)))) | apply Rems.skip | apply Rems.oskip))); refine .inl ⟨?_, rfl, rfl⟩; first | (apply dec_nil; omega) | (apply dec_len hz h1; omega))

theorem ieq_of_get {l m : List IV} (hl : l.length = m.length) (h : ∀ i, i < l.length → l[i]? = m[i]?) : l = m := by
  apply List.ext_getElem?
  intro i
  by_cases hi : i < l.length
  · exact h i hi
  · rw [List.getElem?_eq_none (by omega), List.getElem?_eq_none (by omega)]
theorem iget_succ {l m : List IV} {j : Nat} {x y : IV} (h : ∀ i, i < j → l[i]? = m[i]?) (hx : l[j]? = some x) (hy : m[j]? = some y) (e : x = y) : ∀ i, i < j + 1 → l[i]? = m[i]? := by
  intro i hi
  by_cases e' : i = j
  · subst e'; rw [hx, hy, e]
  · exact h i (by omega)
theorem ine_of_get {l m : List IV} {j : Nat} {x y : IV} (hx : l[j]? = some x) (hy : m[j]? = some y) (e : ¬ x = y) : ¬ l = m := by
  rintro rfl; rw [hx] at hy; exact e (Option.some.inj hy)
theorem ne_bool {x y : IV} (h : (!(x.1 == y.1 && (x.2 == y.2 && true))) = true) : ¬ x = y := by
  rintro rfl; simp at h
theorem eq_bool {x y : IV} (h : (!(x.1 == y.1 && (x.2 == y.2 && true))) = false) : x = y := by
  obtain ⟨a, b⟩ := x; obtain ⟨c, d⟩ := y; simp at h; simp [h.1, h.2]
theorem dec_ok {bs : List Int} {l : List IV} (h : dec bs = some l) : (chk l).1 = 0 := by
  unfold dec at h
  split at h
  · cases h
  · split at h
    · split at h
      · rename_i hc; rw [Option.some.inj h] at hc; exact hc
      · cases h
    · cases h

set_option maxHeartbeats 400000 in
set_option maxRecDepth 4000 in
theorem same_ins (H : Hp) (a b : Option Addr) (c d : Nat) (l m : List IV) (_hb : l.length ≤ 9223372036854775807) (hs : Has H a (cellsI l)) (hs' : Has H b (cellsI m)) : RC Try.prog 23 #[.slice a l.length c, .slice b m.length d] H (.bool (decide (l = m))) := by
  all_goals (try unfold RC)
  all_goals (try unfold DC)
  all_goals refine OC.of_sw Try.func23 rfl Try.ntmps23 (Nat.le_of_ble_eq_true rfl) fun C => ?_
  repeat' (first
    | ((with_reducible apply SW.bloopI (id := 0) (α := Nat) (Inv := (fun j => j ≤ l.length ∧ ∀ i, i < j → l[i]? = m[i]?)) (I := (fun j => [(0, .slice a l.length c), (1, .slice b m.length d), (5, .int .i64 (j : Nat))])) (J := (fun _ => H)) (μ := (fun j => l.length - j)) (x0 := 0)); (exact ⟨by omega, fun i hi => absurd hi (by omega)⟩); (apply Exists.intro; apply And.intro; (focus (repeat (first | exact trivial | refine ⟨rfl, ?_⟩))); (focus (repeat (first | exact Rems.all | exact Rems.nil | (apply Rems.own; (focus (repeat (first | exact OIn.here | apply OIn.there | apply OIn.over)))) | (apply Rems.cons; (focus (repeat (first | assumption | exact Rem.here | apply Rem.there | apply Rem.oH)))) | apply Rems.skip | apply Rems.oskip)))); (intro j hj; obtain ⟨hj1, hj2⟩ := hj; rcases Nat.lt_or_ge j l.length with hlt | hge; (case' inl => (obtain ⟨x, hx⟩ : ∃ x, l[j]? = some x := ⟨_, List.getElem?_eq_getElem hlt⟩; obtain ⟨y, hy⟩ : ∃ y, m[j]? = some y := ⟨_, List.getElem?_eq_getElem (by omega)⟩; have hne := cellsI_ne hx; have ha := hs.isa hne; have e3 := cellsI_31 hx; have hne' := cellsI_ne hy; have ha' := hs'.isa hne'; have e3' := cellsI_31 hy))))
    | ((refine Exists.intro (j + 1) ?_); (apply Exists.intro); (refine ⟨?_, ?_, ?_, ?_⟩); (exact ⟨by omega, iget_succ hj2 hx hy (eq_bool h)⟩); (focus (repeat (first | exact trivial | refine ⟨rfl, ?_⟩))); (focus (repeat (first | exact Rems.all | exact Rems.nil | (apply Rems.own; (focus (repeat (first | exact OIn.here | apply OIn.there | apply OIn.over)))) | (apply Rems.cons; (focus (repeat (first | assumption | exact Rem.here | apply Rem.there | apply Rem.oH)))) | apply Rems.skip | apply Rems.oskip))); (omega))
    | ((with_reducible apply G.at); rfl; first
       | ((with_reducible apply G.move); rfl; rfl) | ((with_reducible apply G.assign); rfl; rfl)
       | ((with_reducible apply G.load0); rfl; rfl; (focus (repeat (first | exact List.Mem.head _ | assumption | apply List.Mem.tail | apply mem_oH))); rfl) | ((with_reducible apply G.load1); rfl; rfl; (focus (repeat (first | exact List.Mem.head _ | assumption | apply List.Mem.tail | apply mem_oH))); rfl)
       | ((with_reducible apply G.loadS0); rfl; rfl; (focus (repeat (first | assumption | exact Has.row (List.Mem.head _) | (apply Has.mine; assumption) | apply Has.tail | apply Has.oH | exact Has.nil))); assumption; (first | assumption | rfl)) | ((with_reducible apply G.loadS1); rfl; rfl; (first | assumption | exact Has.row (List.Mem.head _)); (focus (intro p hp; repeat (first | assumption | apply List.Mem.tail | apply mem_oH))); assumption; (first | assumption | rfl); intro _ _ _)
       | ((with_reducible apply G.faddrh (k := 0)); rfl; rfl; rfl) | ((with_reducible apply G.faddrh (k := 1)); rfl; rfl; rfl) | ((with_reducible apply G.faddrh (k := 2)); rfl; rfl; rfl) | ((with_reducible apply G.faddrh (k := 3)); rfl; rfl; rfl) | ((with_reducible apply G.faddrh (k := 4)); rfl; rfl; rfl) | ((with_reducible apply G.faddrh (k := 5)); rfl; rfl; rfl) | ((with_reducible apply G.faddrh (k := 6)); rfl; rfl; rfl) | ((with_reducible apply G.faddrh (k := 7)); rfl; rfl; rfl)
       | ((with_reducible apply G.faddrS (d := 0)); rfl; rfl; rfl; assumption) | ((with_reducible apply G.faddrS (d := 1)); rfl; rfl; rfl; assumption) | ((with_reducible apply G.faddrS (d := 2)); rfl; rfl; rfl; assumption) | ((with_reducible apply G.faddrS (d := 3)); rfl; rfl; rfl; assumption) | ((with_reducible apply G.faddrS (d := 4)); rfl; rfl; rfl; assumption) | ((with_reducible apply G.faddrS (d := 5)); rfl; rfl; rfl; assumption) | ((with_reducible apply G.faddrS (d := 6)); rfl; rfl; rfl; assumption) | ((with_reducible apply G.faddrS (d := 7)); rfl; rfl; rfl; assumption)
       | ((with_reducible apply G.iaddrS (size := 2) (j := j)); rfl; rfl; rfl; rfl; assumption; (first | rfl | omega); (first | assumption | omega))
       | ((with_reducible apply G.nilck); rfl; rfl) | ((with_reducible apply G.extract); rfl; rfl; rfl) | ((with_reducible apply G.len); rfl; rfl; rfl) | ((with_reducible apply G.pick1); rfl; rfl; rfl) | ((with_reducible apply G.pick0); rfl; rfl; rfl) | ((with_reducible apply G.unw); rfl) | ((with_reducible apply G.unw0); rfl)
       | ((with_reducible apply G.boxa); rfl; rfl; intro b) | ((with_reducible apply G.box); rfl; rfl; intro b) | ((with_reducible apply G.alloc); rfl; rfl; rfl; intro b)
       | ((with_reducible apply G.store); rfl; rfl; rfl; rfl; rfl; rfl; (focus (repeat (first | assumption | exact Rem.here | apply Rem.there | apply Rem.oH))); (exact Nat.le_of_ble_eq_true rfl); (focus (repeat (first | exact StOk.nil | (refine StOk.keep ?_ ?_; (focus ((repeat (first | exact List.Mem.head _ | assumption | apply List.Mem.tail | apply mem_oH)); done))) | refine StOk.gone (by kernel_rfl) ?_))); rfl)
       | ((with_reducible apply G.build); rfl; rfl; rfl) | ((with_reducible apply G.eqs); rfl; rfl; rfl; rfl; (kernel_rfl); (kernel_rfl)) | ((with_reducible apply G.nes); rfl; rfl; rfl; rfl; (kernel_rfl); (kernel_rfl))
       | ((with_reducible apply G.num); rfl; rfl; rfl; rfl; rfl; (first | with_reducible exact shl8 _ (by omega) (by omega) | with_reducible exact shl16 _ (by omega) (by omega) | with_reducible exact or8 (by omega) (by omega) (by omega) (by omega) | with_reducible exact or16 (by omega) (by omega) (by omega) (by omega) | with_reducible exact or24 (by omega) (by omega) (by omega) (by omega) (by omega) (by omega) | with_reducible exact i64_in _ (by omega) (by omega) | with_reducible exact wrap8_in _ (by omega) (by omega) | with_reducible exact u64_in _ (by omega) (by omega) | with_reducible exact shr16 _ | with_reducible exact shr8 _ | with_reducible exact wrap8_mod _))
       | ((with_reducible apply G.pure); rfl; rfl; rfl; rfl; rfl)
       | ((with_reducible apply G.split); rfl; rfl; rfl; all_goals (intro h; first | replace h := beq_t h | replace h := beq_f h | replace h := bne_t h | replace h := bne_f h | replace h := of_decide_eq_true h | replace h := of_decide_eq_false h | skip)))
    | with_reducible apply RG.done | with_reducible apply Q.tn | with_reducible apply Q.tr | with_reducible apply Q.te | with_reducible apply Q.bn | with_reducible apply Q.br | with_reducible apply Q.be | ((with_reducible apply Q.bx); decide) | with_reducible apply Q.tp | with_reducible apply Q.bp
    | with_reducible apply SW.seq | with_reducible apply SW.block | with_reducible apply SW.ret | with_reducible apply SW.skip | with_reducible apply SW.exit
    | ((with_reducible apply SW.cond1); rfl; (focus (first | rfl | exact decide_eq_true (by omega) | exact decide_eq_false (by omega)))) | ((with_reducible apply SW.cond0); rfl; (focus (first | rfl | exact decide_eq_true (by omega) | exact decide_eq_false (by omega))))
    | ((with_reducible apply SW.cond); rfl; all_goals (intro h; first | replace h := beq_t h | replace h := beq_f h | replace h := bne_t h | replace h := bne_f h | replace h := of_decide_eq_true h | replace h := of_decide_eq_false h | skip))
    | ((with_reducible apply SW.region0); kernel_rfl; rfl)
    | ((with_reducible apply SW.region1 (id := 6) [0, 1, 2, 3, 4, 5, 6, 7, 8]); rfl; kernel_rfl))
  all_goals ((apply Q.rret (.cons (by first | exact .tmp rfl | exact .cell rfl (by repeat (first | exact List.Mem.head _ | apply List.Mem.tail)) rfl) .nil)); ((focus (repeat (first | exact Rems.all | exact Rems.nil | (apply Rems.own; (focus (repeat (first | exact OIn.here | apply OIn.there | apply OIn.over)))) | (apply Rems.cons; (focus (repeat (first | assumption | exact Rem.here | apply Rem.there | apply Rem.oH)))) | apply Rems.skip | apply Rems.oskip)))); (first | (simp only [tupV]; rw [decide_eq_true (ieq_of_get (by simp_all; omega) fun i hi => hj2 i (by omega))]) | (simp only [tupV]; rw [decide_eq_false (ine_of_get hx hy (ne_bool h))]) | (simp only [tupV]; rw [decide_eq_false (by intro e; subst e; simp_all)])))
end Go.Proofs.Ytjgilhbponfaaaa
