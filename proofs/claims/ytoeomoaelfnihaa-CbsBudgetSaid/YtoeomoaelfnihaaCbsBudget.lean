/- CbsBudget: the law holds of every input. -/
import Derived.Test.YtoeomoaelfnihaaKF
namespace Go.Proofs.Ytoeomoaelfnihaa
open Go Go.RowKit Bw Go.ChangeShapes Go.WideShapes Go.ChangeAt
set_option linter.unusedSimpArgs false
set_option linter.unusedVariables false
attribute [local irreducible] OC RC DC XC


theorem deed_cells {l : List Value} (h : MatchK [.i .i64, .i .i64, .i .u64, .i .u64, .i .u64] l) : ∃ a i b p n, l = [.int .i64 a, .int .i64 i, .int .u64 b, .int .u64 p, .int .u64 n] ∧ okI .i64 a ∧ okI .i64 i ∧ okI .u64 b ∧ okI .u64 p ∧ okI .u64 n := by
  have h5 := h.length
  match l, h5, h with
  | [v1, v2, v3, v4, v5], _, h =>
    obtain ⟨⟨a, rfl, ha⟩, ⟨i, rfl, hi⟩, ⟨b, rfl, hb⟩, ⟨p, rfl, hp⟩, ⟨n, rfl, hn⟩, _⟩ := h
    exact ⟨a, i, b, p, n, rfl, ha, hi, hb, hp, hn⟩
theorem deeds_of : ∀ {els : List (List Value)}, (∀ x ∈ els, MatchK [.i .i64, .i .i64, .i .u64, .i .u64, .i .u64] x) → ∃ l : List Deed, els = l.map deedC ∧ ∀ y ∈ l, y.ok
  | [], _ => ⟨[], rfl, fun _ h => nomatch h⟩
  | x :: els, h => by
    obtain ⟨l, hl, h2⟩ := deeds_of (els := els) fun y hy => h y (List.mem_cons_of_mem _ hy)
    obtain ⟨a, i, b, p, n, rfl, ha, hi, hb, hp, hn⟩ := deed_cells (h x (List.mem_cons_self ..))
    refine ⟨⟨a, i, b, p, n⟩ :: l, by rw [hl]; rfl, fun y hy => ?_⟩
    rcases List.mem_cons.1 hy with rfl | hy
    · exact ⟨okI_u64 hb, okI_u64 hp, okI_u64 hn⟩
    · exact h2 y hy

theorem two_cells {l : List Value} (h : MatchK [.i .u8, .i .u8] l) : ∃ (a b : Int), l = [.int .u8 a, .int .u8 b] ∧ (0 ≤ a ∧ a < 256) ∧ (0 ≤ b ∧ b < 256) := by
  match l, h with
  | [_, _], ⟨⟨d, rfl, hd⟩, ⟨v, rfl, hv⟩, _⟩ => exact ⟨d, v, rfl, okI_u8 hd, okI_u8 hv⟩
abbrev perC : List Value := [.int .u64 1, .int .u64 2, .int .u64 3, .int .u64 4, .int .u64 5, .int .u64 6, .int .u64 7, .int .u64 8, .int .u64 9, .int .u64 10, .int .u64 12, .int .u64 14, .int .u64 15, .int .u64 20]
theorem per_at (t : Nat) (h : t < 14) : ∃ per : Int, loadL Try.prog 25 perC (t * 1) = some (.int .u64 per) ∧ 1 ≤ per ∧ per ≤ 20 ∧ 232792560 % per = 0 := by
  match t, h with
  | 0, _ => exact ⟨1, by kernel_rfl, by decide, by decide, by decide⟩
  | 1, _ => exact ⟨2, by kernel_rfl, by decide, by decide, by decide⟩
  | 2, _ => exact ⟨3, by kernel_rfl, by decide, by decide, by decide⟩
  | 3, _ => exact ⟨4, by kernel_rfl, by decide, by decide, by decide⟩
  | 4, _ => exact ⟨5, by kernel_rfl, by decide, by decide, by decide⟩
  | 5, _ => exact ⟨6, by kernel_rfl, by decide, by decide, by decide⟩
  | 6, _ => exact ⟨7, by kernel_rfl, by decide, by decide, by decide⟩
  | 7, _ => exact ⟨8, by kernel_rfl, by decide, by decide, by decide⟩
  | 8, _ => exact ⟨9, by kernel_rfl, by decide, by decide, by decide⟩
  | 9, _ => exact ⟨10, by kernel_rfl, by decide, by decide, by decide⟩
  | 10, _ => exact ⟨12, by kernel_rfl, by decide, by decide, by decide⟩
  | 11, _ => exact ⟨14, by kernel_rfl, by decide, by decide, by decide⟩
  | 12, _ => exact ⟨15, by kernel_rfl, by decide, by decide, by decide⟩
  | 13, _ => exact ⟨20, by kernel_rfl, by decide, by decide, by decide⟩

/-- One server. -/
def sv (B P : Int) (x : Srv) : Svs := ⟨1 * 232792560, 0 + ask B P, [x]⟩
def svK (B P : Int) (x : Srv) : Prop := fit1 B P ∧ x.b = B ∧ x.p = P ∧ x.ok
def wk1 (x : Srv) (now : Int) : Srv := if x.aw = false ∨ x.dl ≤ now then fillS x now else x
def ch1 (x : Srv) : Srv := { x with left := x.left - 1 }
theorem svK_ok {B P : Int} {x : Srv} (h : svK B P x) : (sv B P x).ok := by
  obtain ⟨h1, h2, h3, h4⟩ := h
  have ha := fit1_ask h1
  refine ⟨by show (1 : Int) * 232792560 ≤ _; omega, by show 0 ≤ 0 + ask B P; omega, by show 0 + ask B P ≤ 1 * 232792560; omega, by show 1 ≤ 32; omega, fun y hy => ?_⟩
  rw [List.mem_singleton.1 hy]; exact h4
theorem svK_fill {B P now : Int} {x : Srv} (h : svK B P x) (hn : U64 now) : svK B P (fillS x now) := ⟨h.1, h.2.1, h.2.2.1, fillS_ok h.2.2.2 hn⟩
theorem svK_wk {B P now : Int} {x : Srv} (h : svK B P x) (hn : U64 now) : svK B P (wk1 x now) := by
  unfold wk1; split
  · exact svK_fill h hn
  · exact h
theorem svK_ref {B P now : Int} {x : Srv} (h : svK B P x) (hn : U64 now) : svK B P (refX now x) := by
  unfold refX; split
  · exact svK_fill h hn
  · exact h
theorem svK_ch {B P : Int} {x : Srv} (h : svK B P x) (h0 : ¬ x.left = 0) : svK B P (ch1 x) := by
  obtain ⟨h1, h2, h3, r1, r2, r3, r4, r5, r6, r7⟩ := h
  refine ⟨h1, h2, h3, r1, r2, r3, ?_, ?_, r6, r7⟩ <;> (dsimp only [ch1]; omega)
theorem bw (B P now : Int) (x : Srv) (h : svK B P x) (hn : U64 now) (v : Own) (b : Nat) (F : Hp) (hv : OOk 5 v 1 (cellsV [x])) : OC Try.prog 19 #[.pointer (some ⟨b, 0, none⟩), .int .i64 0, .int .u64 now] (svH b (sv B P x) v F) (fun u H' => u = .int .i64 0 ∧ H' = svH b (sv B P (wk1 x now)) v F ∧ OOk 5 v 1 (cellsV [wk1 x now])) := by
  have hc := wake_oc (sv B P x) v b ((0 : Nat) : Int) now F (svK_ok h) hv hn
  have e2 : wakS (sv B P x) ((0 : Nat) : Int) now = sv B P (wk1 x now) := by
    rw [getS_wak (x := x) (by decide : 0 < 1) rfl]; unfold wk1; split <;> rfl
  rw [e2] at hc; exact hc
theorem bc (B P : Int) (x : Srv) (h : svK B P x) (h0 : ¬ x.left = 0) (v : Own) (b : Nat) (F : Hp) (hv : OOk 5 v 1 (cellsV [x])) : OC Try.prog 21 #[.pointer (some ⟨b, 0, none⟩), .int .i64 0] (svH b (sv B P x) v F) (fun u H' => u = .tuple #[.bool (x.left - 1 == 0), .int .i64 0] ∧ H' = svH b (sv B P (ch1 x)) v F ∧ OOk 5 v 1 (cellsV [ch1 x])) := by
  have hc := charge_oc (sv B P x) v b ((0 : Nat) : Int) F (svK_ok h) hv
  obtain ⟨e1, e2, e3⟩ := cha_in (s := sv B P x) (j := 0) (x := x) (by decide : 0 < 1) rfl h0
  have e4 : chaS (sv B P x) ((0 : Nat) : Int) = sv B P (ch1 x) := e3
  rw [e1, e2, e4] at hc; exact hc
theorem bc0 (B P : Int) (x : Srv) (h : svK B P x) (h0 : x.left = 0) (v : Own) (b : Nat) (F : Hp) (hv : OOk 5 v 1 (cellsV [x])) : OC Try.prog 21 #[.pointer (some ⟨b, 0, none⟩), .int .i64 0] (svH b (sv B P x) v F) (fun u H' => u = .tuple #[.bool false, .int .i64 6] ∧ H' = svH b (sv B P x) v F ∧ OOk 5 v 1 (cellsV [x])) := by
  have hc := charge_oc (sv B P x) v b ((0 : Nat) : Int) F (svK_ok h) hv
  obtain ⟨e1, e2, e3⟩ := cha_zero (s := sv B P x) (j := 0) (x := x) (by decide : 0 < 1) rfl h0
  rw [e1, e2, e3] at hc; exact hc
theorem brf (B P now : Int) (x : Srv) (h : svK B P x) (hn : U64 now) (v : Own) (b : Nat) (F : Hp) (hv : OOk 5 v 1 (cellsV [x])) : OC Try.prog 20 #[.pointer (some ⟨b, 0, none⟩), .int .u64 now] (svH b (sv B P x) v F) (fun u H' => ∃ vo o, u = .slice (oA vo) (List.length o) (oC vo) ∧ H' = oH 3 vo (cellsN o) (svH b (sv B P (refX now x)) v F) ∧ OOk 5 v 1 (cellsV [refX now x])) :=
  OC.mono (refill_oc (sv B P x) v b now F (svK_ok h) hv hn) fun _ _ ⟨vo, h1, h2, h3⟩ => ⟨vo, _, h1, h2, ref_own (s := sv B P x) hv now⟩
/-- What is charged since a time: a share of what was left, and of each filling. -/
def BI (B P : Int) (x : Srv) (now bg ch : Int) : Prop := ∃ F : Int, 0 ≤ F ∧ 0 ≤ x.left ∧ x.left ≤ B ∧ 0 ≤ bg ∧ bg ≤ now ∧ 0 ≤ ch ∧ ch + x.left ≤ B + B * F ∧ (F = 0 ∨ (x.aw = true ∧ bg + F * P ≤ x.dl ∧ x.dl ≤ now + P))
theorem BI_new (B P : Int) (h : 1 ≤ B) : BI B P (newV B P) 0 0 0 := ⟨0, Int.le_refl 0, Int.le_refl 0, by show (0 : Int) ≤ B; omega, Int.le_refl 0, Int.le_refl 0, Int.le_refl 0, by show (0 : Int) + 0 ≤ B + B * 0; omega, .inl rfl⟩
theorem BI_time {B P now n2 bg ch : Int} {x : Srv} (h : BI B P x now bg ch) (hn : now ≤ n2) : BI B P x n2 bg ch := by
  obtain ⟨F, f0, f1, f2, f3, f4, f5, f6, f7⟩ := h
  refine ⟨F, f0, f1, f2, f3, by omega, f5, f6, ?_⟩
  rcases f7 with f7 | ⟨a, b, c⟩
  · exact .inl f7
  · exact .inr ⟨a, b, by omega⟩
theorem BI_begin {B P now bg ch : Int} {x : Srv} (h : BI B P x now bg ch) : BI B P x now now 0 := by
  obtain ⟨F, f0, f1, f2, f3, f4, f5, f6, f7⟩ := h
  exact ⟨0, Int.le_refl 0, f1, f2, by omega, Int.le_refl _, Int.le_refl 0, by omega, .inl rfl⟩
theorem BI_fill {B P now bg ch : Int} {x : Srv} (h : BI B P x now bg ch) (hb : x.b = B) (hp : x.p = P) (hB : 1 ≤ B) (h0 : x.aw = false ∨ x.dl ≤ now) (hs : now + P < 18446744073709551616) : BI B P (fillS x now) now bg ch := by
  obtain ⟨F, f0, f1, f2, f3, f4, f5, f6, f7⟩ := h
  have e1 : (fillS x now).left = B := hb
  have e2 : (fillS x now).dl = now + P := by show sat now x.p = _; rw [hp]; unfold sat; rw [if_neg (by omega)]
  have m1 : B * (F + 1) = B * F + B := by rw [Int.mul_add, Int.mul_one]
  have m2 : (F + 1) * P = F * P + P := by rw [Int.add_mul, Int.one_mul]
  refine ⟨F + 1, by omega, by rw [e1]; omega, by rw [e1]; omega, f3, f4, f5, by rw [e1, m1]; omega, .inr ⟨rfl, ?_, by rw [e2]; omega⟩⟩
  rw [e2, m2]
  rcases f7 with f7 | ⟨a, b, c⟩
  · subst f7; rw [Int.zero_mul]; omega
  · rcases h0 with h0 | h0
    · rw [h0] at a; cases a
    · omega
theorem BI_wk {B P now bg ch : Int} {x : Srv} (h : BI B P x now bg ch) (hk : svK B P x) (hs : now + P < 18446744073709551616) : BI B P (wk1 x now) now bg ch := by
  unfold wk1; split
  · rename_i hc; exact BI_fill h hk.2.1 hk.2.2.1 hk.1.1 hc hs
  · exact h
theorem BI_ref {B P now bg ch : Int} {x : Srv} (h : BI B P x now bg ch) (hk : svK B P x) (hs : now + P < 18446744073709551616) : BI B P (refX now x) now bg ch := by
  unfold refX; split
  · rename_i hd
    unfold dueB at hd; simp only [Bool.and_eq_true, beq_iff_eq, decide_eq_true_eq] at hd
    exact BI_fill h hk.2.1 hk.2.2.1 hk.1.1 (.inr hd.2.2) hs
  · exact h
theorem BI_ch {B P now bg ch : Int} {x : Srv} (h : BI B P x now bg ch) (h0 : ¬ x.left = 0) : BI B P (ch1 x) now bg (ch + 1) := by
  obtain ⟨F, f0, f1, f2, f3, f4, f5, f6, f7⟩ := h
  have e1 : (ch1 x).left = x.left - 1 := rfl
  exact ⟨F, f0, by rw [e1]; omega, by rw [e1]; omega, f3, f4, by omega, by rw [e1]; omega, f7⟩
theorem BI_end {B P now bg ch q : Int} {x : Srv} (h : BI B P x now bg ch) (hB : 1 ≤ B) (hP : 1 ≤ P) (hq : (now - bg) / P = q) : 0 ≤ q ∧ q ≤ now - bg ∧ ch ≤ (q + 2) * B := by
  obtain ⟨F, f0, f1, f2, f3, f4, f5, f6, f7⟩ := h
  have hq0 : 0 ≤ q := by rw [← hq]; exact Int.ediv_nonneg (by omega) (by omega)
  have hq1 : q ≤ now - bg := by rw [← hq]; exact Int.ediv_le_self _ (by omega)
  have hF : F ≤ q + 1 := by
    rcases f7 with f7 | ⟨a, b, c⟩
    · omega
    · have h1 : (F - 1) * P ≤ now - bg := by rw [Int.sub_mul, Int.one_mul]; omega
      have := (Int.le_ediv_iff_mul_le (by omega : 0 < P)).2 h1
      omega
  refine ⟨hq0, hq1, ?_⟩
  have h2 : B * F ≤ B * (q + 1) := Int.mul_le_mul_of_nonneg_left hF (by omega)
  have h3 : (q + 2) * B = B + B * (q + 1) := by rw [Int.mul_comm, show q + 2 = 1 + (q + 1) by omega, Int.mul_add, Int.mul_one]
  rw [h3]; omega
theorem mul_rng {q B z : Int} (h0 : 0 ≤ q) (h1 : q ≤ 1600) (hB : 1 ≤ B) (hB2 : B ≤ 20) (hz : (q + 2) * B = z) : 0 ≤ z ∧ z ≤ 32040 := by
  rw [← hz]
  refine ⟨Int.mul_nonneg (by omega) (by omega), ?_⟩
  have h1 := Int.mul_le_mul_of_nonneg_right (by omega : q + 2 ≤ 1602) (by omega : 0 ≤ B)
  omega
theorem b_adm (B P : Int) (h : fit1 B P) (v : Own) (bl : Nat) (F : Hp) (hv : OOk 5 v emptyS.l.length (cellsV emptyS.l)) : OC Try.prog 14 #[.pointer (some ⟨bl, 0, none⟩), .int .u64 B, .int .u64 P] (svH bl emptyS v F) (fun u H' => u = .tuple #[.int .i64 0, .int .i64 0] ∧ ∃ v', H' = svH bl (sv B P (newV B P)) v' F ∧ OOk 5 v' 1 (cellsV [newV B P])) := one_adm B P h v bl F hv
theorem b_newK {B P : Int} (h : fit1 B P) : svK B P (newV B P) := by
  obtain ⟨h1, h2, h3, h4⟩ := id h
  refine ⟨h, rfl, rfl, h1, h2, ?_, ?_, ?_, ?_, ?_⟩ <;> (dsimp only [newV]; omega)

set_option maxHeartbeats 4000000 in
set_option maxRecDepth 4000 in
theorem CbsBudget_rc (H : Hp) (q p : Int) (hq8 : 0 ≤ q ∧ q < 256) (hp8 : 0 ≤ p ∧ p < 256) (a : Option Addr) (m c : Nat) (l : List Deed) (hm : m ≤ c) (hc : l.length = c) (hs : Has H a (cellsD l)) (hL : ∀ y ∈ l, y.ok) (fr : Int) (hfr : 0 ≤ fr ∧ fr < 256) : RC Try.prog 4 #[.agg #[.int .u8 q, .int .u8 p], .slice a m c, .int .u8 fr] H (.bool true) := by
  obtain ⟨t, ht, ht10⟩ : ∃ t : Nat, p % 14 = (t : Int) ∧ t < 14 := ⟨(p % 14).toNat, by omega, by omega⟩
  obtain ⟨per, hper, p1, p2, p3⟩ := per_at t ht10
  have hpne : perC ≠ [] := by simp
  obtain ⟨rq, hrq⟩ : ∃ r, q % per = r := ⟨_, rfl⟩
  have hr0 : 0 ≤ rq := by rw [← hrq]; exact Int.emod_nonneg _ (by omega)
  have hr1 : rq < per := by rw [← hrq]; exact Int.emod_lt_of_pos _ (by omega)
  obtain ⟨bu, hbu⟩ : ∃ bu, rq + 1 = bu := ⟨_, rfl⟩
  have hbw : IntKind.u64.wrap (rq + 1) = bu := by rw [hbu]; exact u64_in _ (by omega) (by omega)
  have hfit : fit1 bu per := ⟨by omega, by omega, p2, p3⟩
  obtain ⟨fq, hfq⟩ : ∃ fq, fr % 200 = fq := ⟨_, rfl⟩
  all_goals (try unfold RC)
  all_goals (try unfold DC)
  all_goals refine OC.of_sw Try.func4 rfl Try.ntmps4 (Nat.le_of_ble_eq_true rfl) fun C => ?_
  repeat' (first
    | ((with_reducible apply SW.bloopI (id := 0) (α := (Nat × Srv × Int × Int × Int)) (Inv := (fun (s' : Nat × Srv × Int × Int × Int) => match s' with | (j, x, nw, bg, ch) => j ≤ 200 ∧ svK bu per x ∧ BI bu per x nw bg ch ∧ nw ≤ 7 * (j : Int) ∧ ch ≤ (j : Int) ∧ OOk 5 v 1 (cellsV [x]))) (I := (fun (s' : Nat × Srv × Int × Int × Int) => match s' with | (j, x, nw, bg, ch) => [(1, .slice a m c), (2, .int .u8 fr), (10, .int .u64 per), (11, .int .u64 bu), (12, .pointer (some ⟨b, 0, none⟩)), (13, .int .i64 0), (15, .int .u64 nw), (16, .int .u64 bg), (17, .int .u64 ch), (18, .int .i64 (j : Nat))])) (J := (fun (s' : Nat × Srv × Int × Int × Int) => match s' with | (j, x, nw, bg, ch) => svH b (sv bu per x) v H)) (μ := (fun s' => 200 - s'.1)) (x0 := (0, newV bu per, 0, 0, 0))); (exact ⟨by omega, b_newK hfit, BI_new _ _ hfit.1, by omega, by omega, hv1⟩); (apply Exists.intro; apply And.intro; (focus (repeat (first | exact trivial | refine ⟨rfl, ?_⟩))); (focus (repeat (first | exact Rems.all | exact Rems.nil | (apply Rems.own; (focus (repeat (first | exact OIn.here | apply OIn.there | apply OIn.over)))) | (apply Rems.cons; (focus (repeat (first | assumption | exact Rem.here | apply Rem.there | apply Rem.oH)))) | apply Rems.skip | apply Rems.oskip)))); (rintro ⟨j, x, nw, bg, ch⟩ ⟨hj, hk, hI, hnj, hcj, hv⟩; (try dsimp only at hj hk hI hnj hcj hv); have hI0 := hI; obtain ⟨F0, i1, i2, i3, i4, i5, i6, i7, i8⟩ := hI0; by_cases hlt : j < m ∧ j < 200; (case' pos => (obtain ⟨hlt1, hlt2⟩ := hlt; obtain ⟨y, hy⟩ : ∃ y, l[j]? = some y := ⟨_, List.getElem?_eq_getElem (by omega)⟩; have hne := d_ne hy; have ha := hs.isa hne; have y1 := d_kind hy; have y2 := d_now hy; obtain ⟨yo1, yo2, yo3, yo4⟩ := hL y (List.mem_of_getElem? hy); obtain ⟨r, hr⟩ : ∃ r, y.now % 8 = r := ⟨_, rfl⟩; obtain ⟨n2, hn2⟩ : ∃ n2, nw + r = n2 := ⟨_, rfl⟩; have hnw : U64 n2 := ⟨by omega, by omega⟩; have addq : IntKind.u64.wrap (nw + r) = n2 := (by rw [hn2]; exact u64_in _ (by omega) (by omega)); (rcases Decidable.em ((j : Int) = fq) with hjq | hjq); (case' inl => (have hB := BI_begin (BI_time hI (by omega : nw ≤ n2)); by_cases k1 : y.kind = 1; (case' pos => (obtain ⟨q, hq⟩ : ∃ q, (n2 - n2) / per = q := ⟨_, rfl⟩; have hB2 := BI_wk hB hk (by omega); obtain ⟨g1, g2, g3⟩ := BI_end hB2 hfit.1 p1 hq; obtain ⟨z, hz⟩ : ∃ z, (q + 2) * bu = z := ⟨_, rfl⟩; have hzr := mul_rng g1 (by omega) hfit.1 (by omega) hz; rw [hz] at g3; have hzw : IntKind.u64.wrap ((q + 2) * bu) = z := (by rw [hz]; exact u64_in _ (by omega) (by omega)))); (case' neg => (by_cases k3 : y.kind = 3; (case' pos => (obtain ⟨q, hq⟩ : ∃ q, (n2 - n2) / per = q := ⟨_, rfl⟩; have hB2 := BI_ref hB hk (by omega); obtain ⟨g1, g2, g3⟩ := BI_end hB2 hfit.1 p1 hq; obtain ⟨z, hz⟩ : ∃ z, (q + 2) * bu = z := ⟨_, rfl⟩; have hzr := mul_rng g1 (by omega) hfit.1 (by omega) hz; rw [hz] at g3; have hzw : IntKind.u64.wrap ((q + 2) * bu) = z := (by rw [hz]; exact u64_in _ (by omega) (by omega)))); (case' neg => (by_cases h0 : x.left = 0; (case' pos => (obtain ⟨q, hq⟩ : ∃ q, (n2 - n2) / per = q := ⟨_, rfl⟩; have hB2 := hB; obtain ⟨g1, g2, g3⟩ := BI_end hB2 hfit.1 p1 hq; obtain ⟨z, hz⟩ : ∃ z, (q + 2) * bu = z := ⟨_, rfl⟩; have hzr := mul_rng g1 (by omega) hfit.1 (by omega) hz; rw [hz] at g3; have hzw : IntKind.u64.wrap ((q + 2) * bu) = z := (by rw [hz]; exact u64_in _ (by omega) (by omega)))); (case' neg => (obtain ⟨q, hq⟩ : ∃ q, (n2 - n2) / per = q := ⟨_, rfl⟩; have hB2 := BI_ch hB h0; obtain ⟨g1, g2, g3⟩ := BI_end hB2 hfit.1 p1 hq; obtain ⟨z, hz⟩ : ∃ z, (q + 2) * bu = z := ⟨_, rfl⟩; have hzr := mul_rng g1 (by omega) hfit.1 (by omega) hz; rw [hz] at g3; have hzw : IntKind.u64.wrap ((q + 2) * bu) = z := (by rw [hz]; exact u64_in _ (by omega) (by omega)))))))))); (case' inr => (have hB := BI_time hI (by omega : nw ≤ n2); by_cases k1 : y.kind = 1; (case' pos => (obtain ⟨q, hq⟩ : ∃ q, (n2 - bg) / per = q := ⟨_, rfl⟩; have hB2 := BI_wk hB hk (by omega); obtain ⟨g1, g2, g3⟩ := BI_end hB2 hfit.1 p1 hq; obtain ⟨z, hz⟩ : ∃ z, (q + 2) * bu = z := ⟨_, rfl⟩; have hzr := mul_rng g1 (by omega) hfit.1 (by omega) hz; rw [hz] at g3; have hzw : IntKind.u64.wrap ((q + 2) * bu) = z := (by rw [hz]; exact u64_in _ (by omega) (by omega)))); (case' neg => (by_cases k3 : y.kind = 3; (case' pos => (obtain ⟨q, hq⟩ : ∃ q, (n2 - bg) / per = q := ⟨_, rfl⟩; have hB2 := BI_ref hB hk (by omega); obtain ⟨g1, g2, g3⟩ := BI_end hB2 hfit.1 p1 hq; obtain ⟨z, hz⟩ : ∃ z, (q + 2) * bu = z := ⟨_, rfl⟩; have hzr := mul_rng g1 (by omega) hfit.1 (by omega) hz; rw [hz] at g3; have hzw : IntKind.u64.wrap ((q + 2) * bu) = z := (by rw [hz]; exact u64_in _ (by omega) (by omega)))); (case' neg => (by_cases h0 : x.left = 0; (case' pos => (obtain ⟨q, hq⟩ : ∃ q, (n2 - bg) / per = q := ⟨_, rfl⟩; have hB2 := hB; obtain ⟨g1, g2, g3⟩ := BI_end hB2 hfit.1 p1 hq; obtain ⟨z, hz⟩ : ∃ z, (q + 2) * bu = z := ⟨_, rfl⟩; have hzr := mul_rng g1 (by omega) hfit.1 (by omega) hz; rw [hz] at g3; have hzw : IntKind.u64.wrap ((q + 2) * bu) = z := (by rw [hz]; exact u64_in _ (by omega) (by omega)))); (case' neg => (obtain ⟨q, hq⟩ : ∃ q, (n2 - bg) / per = q := ⟨_, rfl⟩; have hB2 := BI_ch hB h0; obtain ⟨g1, g2, g3⟩ := BI_end hB2 hfit.1 p1 hq; obtain ⟨z, hz⟩ : ∃ z, (q + 2) * bu = z := ⟨_, rfl⟩; have hzr := mul_rng g1 (by omega) hfit.1 (by omega) hz; rw [hz] at g3; have hzw : IntKind.u64.wrap ((q + 2) * bu) = z := (by rw [hz]; exact u64_in _ (by omega) (by omega))))))))))))))
    | ((refine Exists.intro (j + 1, wk1 x n2, n2, n2, 0) ?_); (apply Exists.intro); (refine ⟨?_, ?_, ?_, ?_⟩); (exact ⟨by omega, svK_wk hk hnw, hB2, by omega, by omega, by assumption⟩); (focus (repeat (first | exact trivial | refine ⟨rfl, ?_⟩))); (focus (repeat (first | exact Rems.all | exact Rems.nil | (apply Rems.own; (focus (repeat (first | exact OIn.here | apply OIn.there | apply OIn.over)))) | (apply Rems.cons; (focus (repeat (first | assumption | exact Rem.here | apply Rem.there | apply Rem.oH)))) | apply Rems.skip | apply Rems.oskip))); ((try dsimp only); omega))
    | ((refine Exists.intro (j + 1, wk1 x n2, n2, bg, ch) ?_); (apply Exists.intro); (refine ⟨?_, ?_, ?_, ?_⟩); (exact ⟨by omega, svK_wk hk hnw, hB2, by omega, by omega, by assumption⟩); (focus (repeat (first | exact trivial | refine ⟨rfl, ?_⟩))); (focus (repeat (first | exact Rems.all | exact Rems.nil | (apply Rems.own; (focus (repeat (first | exact OIn.here | apply OIn.there | apply OIn.over)))) | (apply Rems.cons; (focus (repeat (first | assumption | exact Rem.here | apply Rem.there | apply Rem.oH)))) | apply Rems.skip | apply Rems.oskip))); ((try dsimp only); omega))
    | ((refine Exists.intro (j + 1, refX n2 x, n2, n2, 0) ?_); (apply Exists.intro); (refine ⟨?_, ?_, ?_, ?_⟩); (exact ⟨by omega, svK_ref hk hnw, hB2, by omega, by omega, by assumption⟩); (focus (repeat (first | exact trivial | refine ⟨rfl, ?_⟩))); (focus (repeat (first | exact Rems.all | exact Rems.nil | (apply Rems.own; (focus (repeat (first | exact OIn.here | apply OIn.there | apply OIn.over)))) | (apply Rems.cons; (focus (repeat (first | assumption | exact Rem.here | apply Rem.there | apply Rem.oH)))) | apply Rems.skip | apply Rems.oskip))); ((try dsimp only); omega))
    | ((refine Exists.intro (j + 1, refX n2 x, n2, bg, ch) ?_); (apply Exists.intro); (refine ⟨?_, ?_, ?_, ?_⟩); (exact ⟨by omega, svK_ref hk hnw, hB2, by omega, by omega, by assumption⟩); (focus (repeat (first | exact trivial | refine ⟨rfl, ?_⟩))); (focus (repeat (first | exact Rems.all | exact Rems.nil | (apply Rems.own; (focus (repeat (first | exact OIn.here | apply OIn.there | apply OIn.over)))) | (apply Rems.cons; (focus (repeat (first | assumption | exact Rem.here | apply Rem.there | apply Rem.oH)))) | apply Rems.skip | apply Rems.oskip))); ((try dsimp only); omega))
    | ((refine Exists.intro (j + 1, x, n2, n2, 0) ?_); (apply Exists.intro); (refine ⟨?_, ?_, ?_, ?_⟩); (exact ⟨by omega, hk, hB2, by omega, by omega, by assumption⟩); (focus (repeat (first | exact trivial | refine ⟨rfl, ?_⟩))); (focus (repeat (first | exact Rems.all | exact Rems.nil | (apply Rems.own; (focus (repeat (first | exact OIn.here | apply OIn.there | apply OIn.over)))) | (apply Rems.cons; (focus (repeat (first | assumption | exact Rem.here | apply Rem.there | apply Rem.oH)))) | apply Rems.skip | apply Rems.oskip))); ((try dsimp only); omega))
    | ((refine Exists.intro (j + 1, x, n2, bg, ch) ?_); (apply Exists.intro); (refine ⟨?_, ?_, ?_, ?_⟩); (exact ⟨by omega, hk, hB2, by omega, by omega, by assumption⟩); (focus (repeat (first | exact trivial | refine ⟨rfl, ?_⟩))); (focus (repeat (first | exact Rems.all | exact Rems.nil | (apply Rems.own; (focus (repeat (first | exact OIn.here | apply OIn.there | apply OIn.over)))) | (apply Rems.cons; (focus (repeat (first | assumption | exact Rem.here | apply Rem.there | apply Rem.oH)))) | apply Rems.skip | apply Rems.oskip))); ((try dsimp only); omega))
    | ((refine Exists.intro (j + 1, ch1 x, n2, n2, (0 + 1)) ?_); (apply Exists.intro); (refine ⟨?_, ?_, ?_, ?_⟩); (exact ⟨by omega, svK_ch hk h0, hB2, by omega, by omega, by assumption⟩); (focus (repeat (first | exact trivial | refine ⟨rfl, ?_⟩))); (focus (repeat (first | exact Rems.all | exact Rems.nil | (apply Rems.own; (focus (repeat (first | exact OIn.here | apply OIn.there | apply OIn.over)))) | (apply Rems.cons; (focus (repeat (first | assumption | exact Rem.here | apply Rem.there | apply Rem.oH)))) | apply Rems.skip | apply Rems.oskip))); ((try dsimp only); omega))
    | ((refine Exists.intro (j + 1, ch1 x, n2, bg, (ch + 1)) ?_); (apply Exists.intro); (refine ⟨?_, ?_, ?_, ?_⟩); (exact ⟨by omega, svK_ch hk h0, hB2, by omega, by omega, by assumption⟩); (focus (repeat (first | exact trivial | refine ⟨rfl, ?_⟩))); (focus (repeat (first | exact Rems.all | exact Rems.nil | (apply Rems.own; (focus (repeat (first | exact OIn.here | apply OIn.there | apply OIn.over)))) | (apply Rems.cons; (focus (repeat (first | assumption | exact Rem.here | apply Rem.there | apply Rem.oH)))) | apply Rems.skip | apply Rems.oskip))); ((try dsimp only); omega))
    | ((with_reducible apply G.at); rfl; first
       | ((with_reducible apply G.move); rfl; rfl) | ((with_reducible apply G.assign); rfl; rfl)
       | ((with_reducible apply G.load0); rfl; rfl; (focus (repeat (first | exact List.Mem.head _ | assumption | apply List.Mem.tail | apply mem_oH))); rfl) | ((with_reducible apply G.load1); rfl; rfl; (focus (repeat (first | exact List.Mem.head _ | assumption | apply List.Mem.tail | apply mem_oH))); rfl)
       | ((with_reducible apply G.loadS0); rfl; rfl; (focus (repeat (first | assumption | exact Has.row (List.Mem.head _) | (apply Has.mine; assumption) | apply Has.tail | apply Has.oH | exact Has.nil))); assumption; (first | assumption | rfl)) | ((with_reducible apply G.loadS1); rfl; rfl; (first | assumption | exact Has.row (List.Mem.head _)); (focus (intro p hp; repeat (first | assumption | apply List.Mem.tail | apply mem_oH))); assumption; (first | assumption | rfl); intro _ _ _)
       | ((with_reducible apply G.faddrh (k := 0)); rfl; rfl; rfl) | ((with_reducible apply G.faddrh (k := 1)); rfl; rfl; rfl) | ((with_reducible apply G.faddrh (k := 2)); rfl; rfl; rfl) | ((with_reducible apply G.faddrh (k := 3)); rfl; rfl; rfl) | ((with_reducible apply G.faddrh (k := 4)); rfl; rfl; rfl) | ((with_reducible apply G.faddrh (k := 5)); rfl; rfl; rfl) | ((with_reducible apply G.faddrh (k := 6)); rfl; rfl; rfl) | ((with_reducible apply G.faddrh (k := 7)); rfl; rfl; rfl)
       | ((with_reducible apply G.faddrS (d := 0)); rfl; rfl; rfl; assumption) | ((with_reducible apply G.faddrS (d := 1)); rfl; rfl; rfl; assumption) | ((with_reducible apply G.faddrS (d := 2)); rfl; rfl; rfl; assumption) | ((with_reducible apply G.faddrS (d := 3)); rfl; rfl; rfl; assumption) | ((with_reducible apply G.faddrS (d := 4)); rfl; rfl; rfl; assumption) | ((with_reducible apply G.faddrS (d := 5)); rfl; rfl; rfl; assumption) | ((with_reducible apply G.faddrS (d := 6)); rfl; rfl; rfl; assumption) | ((with_reducible apply G.faddrS (d := 7)); rfl; rfl; rfl; assumption)
       | ((with_reducible apply G.iarr (j := 0)); rfl; rfl; rfl; rfl; rfl; decide) | ((with_reducible apply G.iarr (j := 1)); rfl; rfl; rfl; rfl; rfl; decide)
       | ((with_reducible apply G.boxa (e := 35)); rfl; rfl; intro bt)
       | ((with_reducible apply G.box (e := 35)); rfl; rfl; intro bt)
       | ((with_reducible apply G.remc); rfl; rfl; rfl; omega; omega; exact ht)
       | ((with_reducible apply G.remc); rfl; rfl; rfl; omega; omega; exact hrq)
       | ((with_reducible apply G.remc); rfl; rfl; rfl; omega; omega; exact hfq)
       | ((with_reducible apply G.remc); rfl; rfl; rfl; omega; omega; exact hr)
       | ((with_reducible apply G.quoc); rfl; rfl; rfl; omega; omega; (show _ ≤ (18446744073709551615 : Int)); omega; exact hq)
       | ((with_reducible apply G.bslice); rfl; rfl; intro bq)
       | ((with_reducible apply G.iaddrS (size := 1) (j := t)); rfl; rfl; rfl; rfl; exact ⟨_, _, rfl⟩; (first | rfl | omega); (first | assumption | omega))
       | ((with_reducible apply G.iaddrS (size := 5) (j := j)); rfl; rfl; rfl; rfl; assumption; (first | rfl | omega); (first | assumption | omega))
       | ((with_reducible apply G.hcall (f := 13)); rfl; rfl; exact Try.call13; (exact one_new _); (intro _ _ _; exact StOk.nil); (rintro _ _ ⟨b, rfl, rfl, hv0⟩))
       | ((with_reducible apply G.gcall (f := 14)); rfl; rfl; exact Try.call14; ((apply b_adm (h := hfit)); rotate_left; assumption); (focus (repeat (first | exact Pick.rest | ((with_reducible apply Pick.own); (focus (repeat (first | exact OIn.here | apply OIn.there | apply OIn.over)))) | ((with_reducible apply Pick.cons); (focus (repeat (first | assumption | exact Rem.here | apply Rem.there | apply Rem.oH))))))); (rintro _ _ ⟨rfl, v, rfl, hv1⟩; exact StOk.nil); (rintro _ _ ⟨rfl, v, rfl, hv1⟩))
       | ((with_reducible apply G.gcall (f := 19)); rfl; rfl; exact Try.call19; ((apply bw (h := hk) (hn := hnw)); rotate_left; assumption); (focus (repeat (first | exact Pick.rest | ((with_reducible apply Pick.own); (focus (repeat (first | exact OIn.here | apply OIn.there | apply OIn.over)))) | ((with_reducible apply Pick.cons); (focus (repeat (first | assumption | exact Rem.here | apply Rem.there | apply Rem.oH))))))); (rintro _ _ ⟨rfl, rfl, hv2⟩; exact StOk.nil); (rintro _ _ ⟨rfl, rfl, hv2⟩))
       | ((with_reducible apply G.gcall (f := 20)); rfl; rfl; exact Try.call20; ((apply brf (h := hk) (hn := hnw)); rotate_left; assumption); (focus (repeat (first | exact Pick.rest | ((with_reducible apply Pick.own); (focus (repeat (first | exact OIn.here | apply OIn.there | apply OIn.over)))) | ((with_reducible apply Pick.cons); (focus (repeat (first | assumption | exact Rem.here | apply Rem.there | apply Rem.oH))))))); (rintro _ _ ⟨vo, o, rfl, rfl, hv2⟩; exact StOk.nil); (rintro _ _ ⟨vo, o, rfl, rfl, hv2⟩))
       | ((with_reducible apply G.gcall (f := 21)); rfl; rfl; exact Try.call21; (first | ((apply bc (h := hk) (h0 := h0)); rotate_left; assumption) | ((apply bc0 (h := hk) (h0 := h0)); rotate_left; assumption)); (focus (repeat (first | exact Pick.rest | ((with_reducible apply Pick.own); (focus (repeat (first | exact OIn.here | apply OIn.there | apply OIn.over)))) | ((with_reducible apply Pick.cons); (focus (repeat (first | assumption | exact Rem.here | apply Rem.there | apply Rem.oH))))))); (rintro _ _ ⟨rfl, rfl, hv2⟩; exact StOk.nil); (rintro _ _ ⟨rfl, rfl, hv2⟩))
       | ((with_reducible apply G.rcall (f := 18)); rfl; rfl; exact Try.call18; exact live_dc.rc; (focus (repeat (first | exact StOk.nil | (refine StOk.keep ?_ ?_; (focus ((repeat (first | exact List.Mem.head _ | assumption | apply List.Mem.tail | apply mem_oH)); done))) | refine StOk.gone (by kernel_rfl) ?_))))
       | ((with_reducible apply G.nilck); rfl; rfl) | ((with_reducible apply G.extract); rfl; rfl; rfl) | ((with_reducible apply G.len); rfl; rfl; rfl) | ((with_reducible apply G.pick1); rfl; rfl; rfl) | ((with_reducible apply G.pick0); rfl; rfl; rfl) | ((with_reducible apply G.unw); rfl) | ((with_reducible apply G.unw0); rfl)
       | ((with_reducible apply G.boxa); rfl; rfl; intro b) | ((with_reducible apply G.box); rfl; rfl; intro b) | ((with_reducible apply G.alloc); rfl; rfl; rfl; intro b)
       | ((with_reducible apply G.store); rfl; rfl; rfl; rfl; rfl; rfl; (focus (repeat (first | assumption | exact Rem.here | apply Rem.there | apply Rem.oH))); (exact Nat.le_of_ble_eq_true rfl); (focus (repeat (first | exact StOk.nil | (refine StOk.keep ?_ ?_; (focus ((repeat (first | exact List.Mem.head _ | assumption | apply List.Mem.tail | apply mem_oH)); done))) | refine StOk.gone (by kernel_rfl) ?_))); rfl)
       | ((with_reducible apply G.build); rfl; rfl; rfl) | ((with_reducible apply G.eqs); rfl; rfl; rfl; rfl; (kernel_rfl); (kernel_rfl)) | ((with_reducible apply G.nes); rfl; rfl; rfl; rfl; (kernel_rfl); (kernel_rfl))
       | ((with_reducible apply G.num); rfl; rfl; rfl; rfl; rfl; (first | exact hbw | exact addq | exact hzw | ((with_reducible apply shl8); omega; omega) | ((with_reducible apply shl16); omega; omega) | ((with_reducible apply or8); omega; omega; omega; omega) | ((with_reducible apply or16); omega; omega; omega; omega) | ((with_reducible apply or24); omega; omega; omega; omega; omega; omega) | ((with_reducible apply i64_in); omega; omega) | ((with_reducible apply wrap8_in); omega; omega) | ((with_reducible apply u64_in); omega; omega) | with_reducible exact shr16 _ | with_reducible exact shr8 _ | with_reducible exact wrap8_mod _ | with_reducible exact shr32u _ | ((with_reducible apply and32u); omega; omega) | with_reducible exact wrap64_mod _))
       | ((with_reducible apply G.min2); rfl; rfl; rfl; (first | (apply if_pos; omega) | (apply if_neg; omega) | rfl)) | ((with_reducible apply G.max2); rfl; rfl; rfl; (first | (apply if_pos; omega) | (apply if_neg; omega) | rfl))
       | ((with_reducible apply G.pure); rfl; rfl; rfl; rfl; rfl)
       | ((with_reducible apply G.known true); rfl; rfl; rfl; (focus (first | with_reducible rfl | ((with_reducible apply decide_eq_true); omega) | ((with_reducible apply decide_eq_false); omega) | ((with_reducible apply beq_iff_eq.2); omega) | ((with_reducible apply beq_eq_false_iff_ne.2); omega) | ((with_reducible apply bne_iff_ne.2); omega) | ((with_reducible apply bne_eq_false_iff_eq.2); omega) | ((with_reducible apply bnot_t); omega) | ((with_reducible apply bnot_f); omega) | ((with_reducible apply dnot_t); omega) | ((with_reducible apply dnot_f); omega) | (simp; done)))) | ((with_reducible apply G.known false); rfl; rfl; rfl; (focus (first | with_reducible rfl | ((with_reducible apply decide_eq_true); omega) | ((with_reducible apply decide_eq_false); omega) | ((with_reducible apply beq_iff_eq.2); omega) | ((with_reducible apply beq_eq_false_iff_ne.2); omega) | ((with_reducible apply bne_iff_ne.2); omega) | ((with_reducible apply bne_eq_false_iff_eq.2); omega) | ((with_reducible apply bnot_t); omega) | ((with_reducible apply bnot_f); omega) | ((with_reducible apply dnot_t); omega) | ((with_reducible apply dnot_f); omega) | (simp; done))))
       | ((with_reducible apply G.split); rfl; rfl; rfl; all_goals (intro h; first | replace h := beq_t h | replace h := beq_f h | replace h := bne_t h | replace h := bne_f h | replace h := of_decide_eq_true h | replace h := of_decide_eq_false h | skip)))
    | with_reducible apply RG.done | with_reducible apply Q.tn | with_reducible apply Q.tr | with_reducible apply Q.te | with_reducible apply Q.bn | with_reducible apply Q.br | with_reducible apply Q.be | ((with_reducible apply Q.bx); decide) | with_reducible apply Q.tp | with_reducible apply Q.bp
    | with_reducible apply SW.seq | with_reducible apply SW.block | with_reducible apply SW.ret | with_reducible apply SW.skip | with_reducible apply SW.exit
    | ((with_reducible apply SW.cond1); rfl; (focus (first | with_reducible rfl | ((with_reducible apply decide_eq_true); omega) | ((with_reducible apply decide_eq_false); omega) | ((with_reducible apply beq_iff_eq.2); omega) | ((with_reducible apply beq_eq_false_iff_ne.2); omega) | ((with_reducible apply bne_iff_ne.2); omega) | ((with_reducible apply bne_eq_false_iff_eq.2); omega) | ((with_reducible apply bnot_t); omega) | ((with_reducible apply bnot_f); omega) | ((with_reducible apply dnot_t); omega) | ((with_reducible apply dnot_f); omega) | (simp; done)))) | ((with_reducible apply SW.cond0); rfl; (focus (first | with_reducible rfl | ((with_reducible apply decide_eq_true); omega) | ((with_reducible apply decide_eq_false); omega) | ((with_reducible apply beq_iff_eq.2); omega) | ((with_reducible apply beq_eq_false_iff_ne.2); omega) | ((with_reducible apply bne_iff_ne.2); omega) | ((with_reducible apply bne_eq_false_iff_eq.2); omega) | ((with_reducible apply bnot_t); omega) | ((with_reducible apply bnot_f); omega) | ((with_reducible apply dnot_t); omega) | ((with_reducible apply dnot_f); omega) | (simp; done))))
    | ((with_reducible apply SW.cond); rfl; all_goals (intro h; first | replace h := beq_t h | replace h := beq_f h | replace h := bne_t h | replace h := bne_f h | replace h := of_decide_eq_true h | replace h := of_decide_eq_false h | skip))
    | ((with_reducible apply SW.region0); kernel_rfl; rfl)
    | ((with_reducible apply SW.region1 (id := 1) [0, 1, 2, 3, 4, 5]); rfl; kernel_rfl))
  all_goals ((apply Q.rret (.cons (by first | exact .tmp rfl | exact .cell rfl (by repeat (first | exact List.Mem.head _ | apply List.Mem.tail)) rfl) .nil)); ((focus (repeat (first | exact Rems.all | exact Rems.nil | (apply Rems.own; (focus (repeat (first | exact OIn.here | apply OIn.there | apply OIn.over)))) | (apply Rems.cons; (focus (repeat (first | assumption | exact Rem.here | apply Rem.there | apply Rem.oH)))) | apply Rems.skip | apply Rems.oskip)))); (first | rfl | (simp [tupV]; done) | (simp [tupV]; omega)))

theorem CbsBudget_own : ownKnob Try.prog.godebug = none := by kernel_rfl
theorem CbsBudget_laid : laidOutB Try.prog = true := by kernel_rfl
set_option maxRecDepth 100000 in
theorem CbsBudget_lifted (os : Os) (started : os.Started) (H : Type) (enc : TypeId × Value → H) :
    ReturnsInHanded {} Try.checked os 4 .any (Rows.cbsBudgetSpec.pre6 enc Try.prog Try.f4 Rows.cbsBudgetRow.domain false) (Rows.cbsBudgetSpec.post enc Try.prog Try.f4 false true false false) := by
  refine returnsInHanded_of_change (C := Try.checked) CbsBudget_own started (by kernel_rfl) Try.func4
    (ChangeSpec.witness6 (enc := enc) (C := Try.checked) false ⟨#[], #[.agg #[.int .u8 0, .int .u8 0], .slice none 0 0, .int .u8 0], []⟩ 8 (by kernel_rfl) (by kernel_rfl) (by kernel_rfl) (by kernel_rfl)) ?_
  intro W base args ds gs before hval0 hW _ _
  have hval : ∀ (j : Nat) t v, Try.f4.params[j]? = some t → args[j]? = some v → Value.okWide Try.prog W .any base t v := hval0
  have hW' := hW
  obtain ⟨p, q, hA0, hV, rfl, _, _⟩ := hW
  obtain ⟨rfl, rfl⟩ := trodVars_none hV
  have hA : DataW.TrodAll enc Try.prog W 0 (fun _ => true) true Try.f4.params.toList args.toList ds p := hA0
  rw [Try.params4] at hA hval
  obtain ⟨v0, v1, v2, d0, d1, d2, p0, p1, p2, rfl, rfl, rfl, h0, h1, h2⟩ := trodAll_three hA

  obtain ⟨l0, rfl, m0⟩ := open_agg 4 (ks := [.i .u8, .i .u8]) (by kernel_rfl) (m := 2) (by kernel_rfl) (hval 0 35 _ rfl rfl) h0
  obtain ⟨x00, x01, rfl, b00, b01⟩ := two_cells m0
  obtain ⟨a1, n1, c1, Hc1, els1, rfl, q11, q12, q13, q14, q15, q16, q17⟩ := open_slice Try.underlying36 4 (ks := [.i .i64, .i .i64, .i .u64, .i .u64, .i .u64]) (by kernel_rfl) (by kernel_rfl) (by decide) (hval 1 36 _ rfl rfl) h1
  obtain ⟨L1, rfl, hL1⟩ := deeds_of q14
  have s1 : Has Hc1 a1 (cellsD L1) := q15
  rw [List.length_map] at q11
  obtain ⟨x2, rfl, _, _, w2⟩ := open_int Try.underlying5 (hval 2 5 _ rfl rfl) h2
  refine (RC.run (CbsBudget_rc Hc1 x00 x01 b00 b01 a1 n1 c1 L1 q12 q11 s1 hL1 x2 (okI_u8 w2)) q16).mono fun e W' ⟨he, hb⟩ => ?_
  subst he
  exact ⟨_, rfl, law_post CbsBudget_laid (by decide +kernel) rfl Try.underlying4 rfl (fun ds h => by match ds, h with | [d0, d1, d2], _ => rfl) rfl hW' hb⟩

theorem CbsBudget_holds : Rows.CbsBudgetSaid :=
  OpenClaim.holds_of_wide 4 Try.f4 rfl rfl rfl rfl rfl rfl rfl ⟨rfl, rfl, rfl, rfl, rfl⟩ rfl rfl rfl rfl rfl (by kernel_rfl) Try.func4 (by kernel_rfl)
    (of_decide_eq_true (by kernel_rfl)) (by unfold Func.isWrapper; first | (rw [if_pos (by decide +kernel)]; kernel_rfl) | (rw [if_neg (by decide +kernel)]; exact ⟨rfl, rfl⟩))
    (fun os started H enc _ => CbsBudget_lifted os started H enc)

end Go.Proofs.Ytoeomoaelfnihaa
