/-
  Plain tools of this repo: calls that are told of a part of what is known, stores into what grows, lists of cells with one changed.
-/
import Derived.Test.YtlekjgaedligdaaSJ
namespace Bw
open Go Go.RowKit

variable {P : Program} {C : Ctx} {ops : Array Oper} {K : Post} {dr : Bool} {i t : Nat} {is : List Nat} {T : Tm} {H : Hp} {log : Log} {ty : TypeId} {ps : String} {af : Array Edge} {gd : Option (Nat × Bool)}
variable {N : Nat} {ds : List Deferred} {Q : Post}

/-- The same blocks, some of them put ahead. -/
inductive Pick : Hp → Hp → Prop
  | rest {A : Hp} : Pick A A
  | cons {A : Hp} {p : Nat × AObj} {F B : Hp} (h : Rem A p F) (hs : Pick F B) : Pick A (p :: B)
  | own {e : TypeId} {A : Hp} {v : Own} {cs : List Value} {F B : Hp} (h : OIn e A v cs F) (hs : Pick F B) : Pick A (oH e v cs B)
theorem OIn.perm {e : TypeId} {H F : Hp} {v : Own} {cs : List Value} (h : OIn e H v cs F) : H.Perm (oH e v cs F) := by
  have hr := h.rem
  cases v with
  | none => simp only at hr; subst hr; exact List.Perm.refl _
  | some q => exact hr.perm
theorem oH_perm {e : TypeId} {A B : Hp} {v : Own} {cs : List Value} (h : A.Perm B) : (oH e v cs A).Perm (oH e v cs B) := by
  cases v with
  | none => exact h
  | some q => exact h.cons _
theorem Pick.perm {H B : Hp} (h : Pick H B) : H.Perm B := by
  induction h with
  | rest => exact List.Perm.refl _
  | cons h _ ih => exact h.perm.trans (ih.cons _)
  | own h _ ih => exact h.perm.trans (oH_perm ih)

theorem G.gcall {d : Option Tmp} {xs : List Operand} {tys : Array TypeId} {f : FuncId} {l : List Value} {Hc : Hp} {R : Value → Hp → Prop} (hw : wantT ops T ⟨d, .call ⟨.value (.func f), xs.toArray, tys⟩, ty, ps, af, gd⟩ = some true)
    (hxs : evL T xs = some l) (hcf : Callable P f) (hc : OC P f l.toArray Hc R) (hp : Pick H Hc) (hst : ∀ v H', R v H' → StOk ops (i :: is) H' log) (next : ∀ v H', R v H' → RG dr P C ops K is (updO T d v) H' log) :
    RGo ⟨d, .call ⟨.value (.func f), xs.toArray, tys⟩, ty, ps, af, gd⟩ dr P C ops K i is T H log := by
  intro ho
  refine RG.spine _ R ho hw rfl rfl (fun ρ w hρ hh => ?_) ?_ ?_
  · have hxs' : xs.toArray.map ρ = l.toArray := by
      rw [List.map_toArray, evL_spec hxs fun x hx u hu => hρ x (by simp [Op.operands, Call.operands, hx]) u hu]
    have := run_call (ρ := ρ) (o := ⟨d, .call ⟨.value (.func f), xs.toArray, tys⟩, ty, ps, af, gd⟩) (fi := #[]) (ca := #[]) hcf rfl (hρ (.func f) (by simp [Op.operands, Call.operands]) _ rfl) hxs' w
    rw [this]
    have hh' : HSat C (Hc ++ []) w := by simpa using hh.perm hp.perm
    simp only [Array.empty_append, Array.append_empty, Came]
    refine Calls.mono (hc w hh'.enter) fun e w' h => ?_
    obtain ⟨v, H', rfl, hR, hs⟩ := h
    exact .inl ⟨v, _, rfl, hR, by simpa using hh'.leave hs⟩
  · rintro u H1 hR e he _; exact (hst u H1 hR).spec e he
  · intro u H1 hR; have := next u H1 hR; cases d <;> exact this

theorem G.storeO {tl e : TypeId} {x y : Operand} {v : Own} {k n : Nat} {g : Bool} {cs cs' : List Value} {u : Value} {F : Hp} (hw : wantT ops T ⟨none, .store tl x y, ty, ps, af, gd⟩ = some true)
    (hx : ev T x = some (ptrAt (oA v) k)) (hy : ev T y = some u) (hsz : aggOf P tl = some (g, n)) (hn : (cellsL u).length = n) (hone : oneB (cellsL u) = true) (hin : OIn e H v cs F) (ha : Is (oA v)) (hlen : k + n ≤ cs.length)
    (hset : setL cs k (cellsL u) = cs') (hst : StOk ops (i :: is) F log) (next : RG dr P C ops K is T (oH e v cs' F) log) :
    RGo ⟨none, .store tl x y, ty, ps, af, gd⟩ dr P C ops K i is T H log := by
  have hr := hin.rem
  cases v with
  | none => obtain ⟨_, _, h⟩ := ha; cases h
  | some q =>
    obtain ⟨b, c, r⟩ := q
    rw [show oA (some (b, c, r)) = some ⟨b, 0, none⟩ from rfl, ptrAt_some, Nat.zero_add] at hx
    exact G.store' hw hx hy hsz hn hone hr hlen hst hset next

theorem OOk.isa {size n : Nat} {v : Own} {cs : List Value} (h : OOk size v n cs) (hn : 0 < n) : Is (oA v) := by
  cases v with
  | none => have := h.zero.1; omega
  | some q => exact ⟨_, _, rfl⟩
theorem OOk.set {size n : Nat} {v : Own} {cs cs' : List Value} (h : OOk size v n cs) (hl : cs'.length = cs.length) : OOk size v n cs' :=
  ⟨by rw [hl, h.len], h.cap, by rw [hl]; exact h.room⟩

theorem setL_app_l {a b : List Value} : ∀ {vs : List Value} {d : Nat}, d + vs.length ≤ a.length → setL (a ++ b) d vs = setL a d vs ++ b := by
  intro vs
  induction vs generalizing a with
  | nil => intro d _; rfl
  | cons v vs ih =>
    intro d h
    simp only [List.length_cons] at h
    rw [setL, setL, List.set_append_left _ _ (by omega), ih (by simp; omega)]
theorem setL_app_r {a b : List Value} : ∀ {vs : List Value} {d : Nat}, setL (a ++ b) (a.length + d) vs = a ++ setL b d vs := by
  intro vs
  induction vs generalizing b with
  | nil => intro d; rfl
  | cons v vs ih =>
    intro d
    rw [setL, setL, List.set_append_right _ _ (by omega), show a.length + d - a.length = d by omega, Nat.add_assoc, ih]
theorem setL_flat {α : Type} (f : α → List Value) {n : Nat} (hf : ∀ x, (f x).length = n) : ∀ {l : List α} {j d : Nat} {x x' : α} {vs : List Value}, l[j]? = some x → d + vs.length ≤ n → setL (f x) d vs = f x' → setL (l.flatMap f) (j * n + d) vs = (l.set j x').flatMap f
  | [], j, d, x, x', vs, h, _, _ => by simp at h
  | y :: l, 0, d, x, x', vs, h, hd, hs => by
    simp only [List.getElem?_cons_zero, Option.some.injEq] at h
    subst h
    rw [List.flatMap_cons, Nat.zero_mul, Nat.zero_add, setL_app_l (by rw [hf]; exact hd), hs]; rfl
  | y :: l, j + 1, d, x, x', vs, h, hd, hs => by
    rw [List.getElem?_cons_succ] at h
    rw [List.flatMap_cons, show (j + 1) * n + d = (f y).length + (j * n + d) by rw [hf, Nat.add_mul]; omega, setL_app_r, setL_flat f hf h hd hs]; rfl
theorem flat_len_set {α : Type} (f : α → List Value) {n : Nat} (hf : ∀ x, (f x).length = n) (l : List α) (j : Nat) (x : α) : ((l.set j x).flatMap f).length = (l.flatMap f).length := by
  rw [flat_length f hf, flat_length f hf, List.length_set]
end Bw
