/-
  Plain tools of this repo: turns of bits, bits put together; slices that grow from nothing.
-/
import Derived.Test.YtlekjgaedligdaaSF
namespace Bw
open Go Go.RowKit

theorem shl8 (a : Int) (h0 : 0 ≤ a) (h1 : a < 36028797018963968) : IntKind.i64.wrap (a * 2 ^ (min (Int.toNat 8) (IntKind.bits .i64))) = a * 256 := by
  have e : (2 : Int) ^ (min (Int.toNat 8) (IntKind.bits .i64)) = 256 := rfl
  rw [e]; exact i64_in _ (by omega) (by omega)
theorem shl16 (a : Int) (h0 : 0 ≤ a) (h1 : a < 140737488355328) : IntKind.i64.wrap (a * 2 ^ (min (Int.toNat 16) (IntKind.bits .i64))) = a * 65536 := by
  have e : (2 : Int) ^ (min (Int.toNat 16) (IntKind.bits .i64)) = 65536 := rfl
  rw [e]; exact i64_in _ (by omega) (by omega)

theorem or_nat {a b : Nat} (k : Nat) (h : a % 2 ^ k = 0) (hb : b < 2 ^ k) : a ||| b = a + b := by
  have h1 : a = 2 ^ k * (a / 2 ^ k) := by have := Nat.mod_add_div a (2 ^ k); omega
  rw [h1, Nat.two_pow_add_eq_or_of_lt hb]

theorem or_i64 (k : Nat) {a b : Int} (ha : 0 ≤ a) (hb : 0 ≤ b) (h : a.toNat % 2 ^ k = 0) (hk : b.toNat < 2 ^ k) (hs : a + b < 9223372036854775808) :
    IntKind.i64.wrap ((BitVec.ofInt (IntKind.bits .i64) a ||| BitVec.ofInt (IntKind.bits .i64) b).toNat : Int) = a + b := by
  obtain ⟨x, rfl⟩ := Int.eq_ofNat_of_zero_le ha
  obtain ⟨y, rfl⟩ := Int.eq_ofNat_of_zero_le hb
  have hb64 : IntKind.bits .i64 = 64 := rfl
  have e : (BitVec.ofInt (IntKind.bits .i64) (x : Int) ||| BitVec.ofInt (IntKind.bits .i64) (y : Int)).toNat = x + y := by
    rw [BitVec.toNat_or, BitVec.toNat_ofInt, BitVec.toNat_ofInt, hb64]
    have h1 : ((x : Int) % ((2 ^ 64 : Nat) : Int)).toNat = x := by omega
    have h2 : ((y : Int) % ((2 ^ 64 : Nat) : Int)).toNat = y := by omega
    rw [h1, h2]
    exact or_nat k (by simpa using h) (by simpa using hk)
  rw [e]
  have := i64_in ((x : Int) + y) (by omega) hs
  simpa using this

theorem or8 {a b : Int} (ha : 0 ≤ a) (hb : 0 ≤ b) (hb' : b < 256) (hs : a < 36028797018963967) : IntKind.i64.wrap ((BitVec.ofInt (IntKind.bits .i64) (a * 256) ||| BitVec.ofInt (IntKind.bits .i64) b).toNat : Int) = a * 256 + b :=
  or_i64 8 (by omega) hb (by omega) (by omega) (by omega)
theorem or16 {a b : Int} (ha : 0 ≤ a) (hb : 0 ≤ b) (hb' : b < 256) (hs : a < 140737488355327) : IntKind.i64.wrap ((BitVec.ofInt (IntKind.bits .i64) (a * 65536) ||| BitVec.ofInt (IntKind.bits .i64) (b * 256)).toNat : Int) = a * 65536 + b * 256 :=
  or_i64 16 (by omega) (by omega) (by omega) (by omega) (by omega)
theorem or24 {a b c : Int} (ha : 0 ≤ a) (hb : 0 ≤ b) (hb' : b < 256) (hc : 0 ≤ c) (hc' : c < 256) (hs : a < 140737488355327) : IntKind.i64.wrap ((BitVec.ofInt (IntKind.bits .i64) (a * 65536 + b * 256) ||| BitVec.ofInt (IntKind.bits .i64) c).toNat : Int) = a * 65536 + b * 256 + c :=
  or_i64 8 (by omega) (by omega) (by omega) (by omega) (by omega)

/-! A slice that grows from nothing: its block, its room, what is left of it. -/
abbrev Own := Option (Nat × Nat × Nat)
def oA : Own → Option Addr
  | none => none
  | some (b, _, _) => some ⟨b, 0, none⟩
def oC : Own → Nat
  | none => 0
  | some (_, c, _) => c
def oH (e : TypeId) (v : Own) (cs : List Value) (H : Hp) : Hp := match v with
  | none => H
  | some (b, _, r) => (b, .row e cs r) :: H
def oR : Own → Nat → Nat → Prop
  | none, _, _ => True
  | some (_, c, r), size, len => c * size = len + r
/-- So many elements of so many cells each, these cells. -/
structure OOk (size : Nat) (v : Own) (n : Nat) (cs : List Value) : Prop where
  len : cs.length = n * size
  cap : n ≤ oC v
  room : oR v size cs.length

theorem OOk.nil {size : Nat} : OOk size none 0 [] := ⟨by simp, Nat.le_refl _, trivial⟩
theorem OOk.zero {size n : Nat} {cs : List Value} (h : OOk size none n cs) : n = 0 ∧ cs = [] := by
  obtain ⟨h1, h2, _⟩ := h
  simp only [oC] at h2
  have : n = 0 := by omega
  subst this
  exact ⟨rfl, List.eq_nil_of_length_eq_zero (by rw [h1, Nat.zero_mul])⟩

inductive OIn (e : TypeId) : Hp → Own → List Value → Hp → Prop
  | here {v cs F} : OIn e (oH e v cs F) v cs F
  | there {p H v cs F} (h : OIn e H v cs F) : OIn e (p :: H) v cs (p :: F)
  | over {v' cs' e' H v cs F} (h : OIn e H v cs F) : OIn e (oH e' v' cs' H) v cs (oH e' v' cs' F)

theorem mem_oH {e : TypeId} {v : Own} {cs : List Value} {H : Hp} {p : Nat × AObj} (h : p ∈ H) : p ∈ oH e v cs H := by
  cases v with
  | none => exact h
  | some q => exact List.mem_cons_of_mem _ h
theorem Rem.oH {e : TypeId} {v : Own} {cs : List Value} {H F : Hp} {p : Nat × AObj} (h : Rem H p F) : Rem (Bw.oH e v cs H) p (Bw.oH e v cs F) := by
  cases v with
  | none => exact h
  | some q => exact .there h
theorem Has.oH {e : TypeId} {v : Own} {cs cs' : List Value} {H : Hp} {a : Option Addr} (h : Has H a cs') : Has (Bw.oH e v cs H) a cs' := by
  cases v with
  | none => exact h
  | some q => exact h.tail
theorem Has.mine {e : TypeId} {size n : Nat} {v : Own} {cs : List Value} {H : Hp} (h : OOk size v n cs) : Has (Bw.oH e v cs H) (oA v) cs := by
  cases v with
  | none => rw [h.zero.2]; exact .nil
  | some q => exact .row (List.mem_cons_self ..)
theorem Has.inn {e : TypeId} {size n : Nat} {v : Own} {cs : List Value} {H F : Hp} (hin : OIn e H v cs F) (h : OOk size v n cs) : Has H (oA v) cs := by
  induction hin with
  | here => exact .mine h
  | there _ ih => exact (ih h).tail
  | over _ ih => exact (ih h).oH

theorem OIn.rem {e : TypeId} {H F : Hp} {v : Own} {cs : List Value} (h : OIn e H v cs F) : match v with
    | none => H = F
    | some (b, _, r) => Rem H (b, .row e cs r) F := by
  induction h with
  | here => rename_i v cs F; cases v with
    | none => rfl
    | some q => exact .here
  | there _ ih => rename_i v cs F _; cases v with
    | none => exact congrArg _ ih
    | some q => exact .there ih
  | over _ ih => rename_i v' cs' e' H v cs F _; cases v with
    | none => exact congrArg _ ih
    | some q => exact .oH ih

theorem Rems.own {e : TypeId} {H H1 B F : Hp} {v : Own} {cs : List Value} (h : OIn e H v cs H1) (hs : Rems H1 B F) : Rems H (Bw.oH e v cs B) F := by
  have hr := h.rem
  cases v with
  | none => simp only at hr; subst hr; exact hs
  | some q => exact .cons hr hs
theorem Rems.oskip {e : TypeId} {H B F : Hp} {v : Own} {cs : List Value} (h : Rems H B F) : Rems (Bw.oH e v cs H) B (Bw.oH e v cs F) := by
  cases v with
  | none => exact h
  | some q => exact .skip h

variable {P : Program} {C : Ctx} {ops : Array Oper} {K : Post} {dr : Bool} {i t : Nat} {is : List Nat} {T : Tm} {H : Hp} {log : Log} {ty : TypeId} {ps : String} {af : Array Edge} {gd : Option (Nat × Bool)}

theorem G.appendO {s x : Operand} {t1 t2 e : TypeId} {size bytes n m c' : Nat} {a : Option Addr} {v : Own} {F : Hp} {cs news cs' : List Value} (hw : wantT ops T ⟨some t, .call ⟨.builtin .append, #[s, x], #[t1, t2]⟩, ty, ps, af, gd⟩ = some true)
    (hx : ev T s = some (.slice (oA v) n (oC v))) (hy : ev T x = some (.slice a m c')) (ht : appT P t1 = some (e, size, bytes)) (hu : notNum P t2 = true) (hin : OIn e H v cs F) (hok : OOk size v n cs)
    (hsrc : Has H a news) (hl : news.length = m * size) (h1 : oneB news = true) (n' : Nat) (hn : n + m = n') (hc' : cs ++ news = cs') (hb : n' * bytes ≤ 140737488355328) (h63 : n' ≤ 9223372036854775807)
    (hst : StOk ops (i :: is) F log)
    (next : ∀ v', OOk size v' n' cs' → RG dr P C ops K is (upd T t (.slice (oA v') n' (oC v'))) (oH e v' cs' F) log) :
    RGo ⟨some t, .call ⟨.builtin .append, #[s, x], #[t1, t2]⟩, ty, ps, af, gd⟩ dr P C ops K i is T H log := by
  subst hn; subst hc'
  have hr := hin.rem
  have back : ∀ v' : Option (Nat × Nat), OwnOk size v' (n + m) (cs ++ news) → RG dr P C ops K is (upd T t (ownV v' (n + m))) (ownH e size v' (cs ++ news) F) log := by
    intro v' hv'
    cases v' with
    | none =>
      have h0 := hv'.2.1 rfl
      have := next none ⟨hv'.1, hv'.2.2, trivial⟩
      rw [h0] at this ⊢
      exact this
    | some p =>
      obtain ⟨b, c⟩ := p
      have hle : (cs ++ news).length ≤ c * size := by rw [hv'.1]; exact Nat.mul_le_mul_right _ hv'.2.2
      exact next (some (b, c, c * size - (cs ++ news).length)) ⟨hv'.1, hv'.2.2, by show c * size = _; omega⟩
  cases v with
  | none =>
    obtain ⟨rfl, rfl⟩ := hok.zero
    have hr' : H = F := hr
    subst hr'
    exact G.append (v := none) (n := 0) (cs := []) hw hx hy ht hu (.here (w := none)) ⟨by simp, fun _ => rfl, Nat.le_refl _⟩ (fun w hh => src_of_has hsrc hh.heap hl) hl h1 hb h63 hst fun v' hv' _ => back v' hv'
  | some q =>
    obtain ⟨b, cap, r⟩ := q
    have hin' : ∀ {p : Nat × AObj} {H F : Hp}, Rem H p F → ∀ {b cap cs r}, p = (b, AObj.row e cs r) → cap * size = cs.length + r → OwnIn e size H (some (b, cap)) cs F := by
      intro p H F h
      induction h with
      | here => intro b cap cs r hp h; subst hp; exact .row h
      | there _ ih => intro b cap cs r hp h; exact .there (ih hp h)
    exact G.append (v := some (b, cap)) hw hx hy ht hu (hin' hr rfl hok.room) ⟨hok.len, fun h => by simp at h, hok.cap⟩ (fun w hh => src_of_has hsrc hh.heap hl) hl h1 hb h63 hst fun v' hv' _ => back v' hv'
end Bw
