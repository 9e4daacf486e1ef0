/- What Encode and Decode are to each other, in plain Lean. -/
import Derived.Test.YtjgilhbponfaaaaD
namespace Go.Proofs.Ytjgilhbponfaaaa
open Go Go.RowKit Bw

theorem flat_at {α β : Type} (f : α → List β) {n : Nat} (hf : ∀ x, (f x).length = n) : ∀ (l : List α) (j d : Nat) (x : α), l[j]? = some x → d < n → (l.flatMap f)[j * n + d]? = (f x)[d]?
  | [], j, d, x, h, _ => by simp at h
  | y :: l, 0, d, x, h, hd => by
    simp only [List.getElem?_cons_zero, Option.some.injEq] at h
    subst h
    rw [List.flatMap_cons, Nat.zero_mul, Nat.zero_add, List.getElem?_append_left (by rw [hf]; exact hd)]
  | y :: l, j + 1, d, x, h, hd => by
    rw [List.getElem?_cons_succ] at h
    rw [List.flatMap_cons, List.getElem?_append_right (by rw [hf, Nat.add_mul]; omega), hf]
    rw [← flat_at f hf l j d x h hd]
    congr 1
    rw [Nat.add_mul]; omega

theorem enc_len (l : List IV) : (enc l).length = 1 + 4 * l.length := by
  have := encTo_len (l := l) (j := l.length) (Nat.le_refl _)
  simpa [bytesV, enc] using this
theorem enc_at {l : List IV} {j d : Nat} {x : IV} (h : l[j]? = some x) (hd : d < 4) : (enc l)[1 + 4 * j + d]? = (encE x)[d]? := by
  have := flat_at encE (n := 4) (fun _ => rfl) l j d x h hd
  rw [show 1 + 4 * j + d = (j * 4 + d) + 1 by omega]
  simp only [enc, encTo, List.take_length, List.getElem?_cons_succ]
  exact this
theorem insAt_of {bs : List Int} {j : Nat} {x y z w : Int} (h0 : bs[1 + 4 * j]? = some x) (h1 : bs[1 + 4 * j + 1]? = some y) (h2 : bs[1 + 4 * j + 2]? = some z) (h3 : bs[1 + 4 * j + 3]? = some w) : insAt bs j = (x, y * 65536 + z * 256 + w) := by
  unfold insAt
  rw [← num1 h0, ← num3 h1 h2 h3]
theorem decTo_get {bs : List Int} {n j : Nat} (h : j < n) : (decTo bs n)[j]? = some (insAt bs j) := by
  simp [decTo, h]

theorem dec_enc {l : List IV} (hz : (chk l).1 = 0) : dec (enc l) = some l := by
  obtain ⟨hpos, h64, hall, hend⟩ := chk_ok hz
  have h0 : ((l.length : Nat) : Int) = numOf ((enc l).take 1) := by simp [enc, encTo, numOf]
  have heq : decTo (enc l) l.length = l := by
    apply List.ext_getElem?
    intro j
    by_cases hj : j < l.length
    · rw [decTo_get hj]
      have hx : l[j]? = some l[j] := List.getElem?_eq_getElem hj
      obtain ⟨_, q3, q4⟩ := right_rng (n := l.length) (by omega) (hall j _ hx)
      have e0 := enc_at hx (d := 0) (by decide)
      have e1 := enc_at hx (d := 1) (by decide)
      have e2 := enc_at hx (d := 2) (by decide)
      have e3 := enc_at hx (d := 3) (by decide)
      simp only [encE, List.getElem?_cons_zero, List.getElem?_cons_succ, Nat.add_zero] at e0 e1 e2 e3
      rw [insAt_of e0 e1 e2 e3, hx]
      congr 1
      apply Prod.ext
      · rfl
      · show l[j].2 / 65536 * 65536 + l[j].2 / 256 % 256 * 256 + l[j].2 % 256 = l[j].2
        omega
    · rw [List.getElem?_eq_none (by rw [decTo_len]; omega), List.getElem?_eq_none (by omega)]
  rw [dec_chk h0 (by rw [enc_len]; omega) (enc_len l), heq, if_pos hz]

theorem enc_dec {bs : List Int} {l : List IV} (hb : ∀ x ∈ bs, Byte x) (h : dec bs = some l) : enc l = bs := by
  match bs, hb, h with
  | [], _, h => unfold dec at h; cases h
  | m :: r, hb, h =>
    obtain ⟨m1, m2⟩ := hb m (List.mem_cons_self ..)
    obtain ⟨n, rfl⟩ : ∃ n : Nat, m = n := ⟨m.toNat, by omega⟩
    have h0 : (n : Int) = numOf (((n : Int) :: r).take 1) := by simp [numOf]
    have hl : ((n : Int) :: r).length = 1 + 4 * n := by
      refine Classical.byContradiction fun hn => ?_
      rw [dec_len h0 (by simp) hn] at h; cases h
    rw [dec_chk h0 (by simp) hl] at h
    split at h
    · have e := Option.some.inj h
      have hlen : l.length = n := by rw [← e, decTo_len]
      apply List.ext_getElem?
      intro k
      match k with
      | 0 => simp [enc, encTo, hlen]
      | k + 1 =>
        by_cases hk : k < 4 * n
        · obtain ⟨j, d, hd, rfl⟩ : ∃ j d, d < 4 ∧ k = j * 4 + d := ⟨k / 4, k % 4, Nat.mod_lt _ (by decide), by omega⟩
          have hj : j < n := by omega
          have hx : l[j]? = some (insAt ((n : Int) :: r) j) := by rw [← e, decTo_get hj]
          have e1 := enc_at hx hd
          rw [show j * 4 + d + 1 = 1 + 4 * j + d by omega, e1]
          have get : ∀ i, i < 1 + 4 * n → ∃ y, ((n : Int) :: r)[i]? = some y ∧ 0 ≤ y ∧ y < 256 := fun i hi => by
            have := List.getElem?_eq_getElem (l := (n : Int) :: r) (i := i) (by omega)
            exact ⟨_, this, hb _ (List.mem_of_getElem? this)⟩
          obtain ⟨x0, g0, _, _⟩ := get (1 + 4 * j) (by omega)
          obtain ⟨x1, g1, _, _⟩ := get (1 + 4 * j + 1) (by omega)
          obtain ⟨x2, g2, _, _⟩ := get (1 + 4 * j + 2) (by omega)
          obtain ⟨x3, g3, _, _⟩ := get (1 + 4 * j + 3) (by omega)
          rw [insAt_of g0 g1 g2 g3]
          match d, hd with
          | 0, _ => rw [Nat.add_zero, g0]; rfl
          | 1, _ => rw [g1]; simp only [encE, List.getElem?_cons_zero, List.getElem?_cons_succ]; congr 1; omega
          | 2, _ => rw [g2]; simp only [encE, List.getElem?_cons_zero, List.getElem?_cons_succ]; congr 1; omega
          | 3, _ => rw [g3]; simp only [encE, List.getElem?_cons_zero, List.getElem?_cons_succ]; congr 1; omega
        · rw [List.getElem?_eq_none (by rw [enc_len, hlen]; omega), List.getElem?_eq_none (by simp at hl ⊢; omega)]
    · cases h

theorem decode_n {H : Hp} {a : Option Addr} {c k : Nat} {bs : List Int} (hk : bs.length = k) (hs : Has H a (bytesV bs)) (hb : ∀ x ∈ bs, Byte x) (hc : k ≤ c) : OC Try.prog 21 #[.slice a k c] H (DecR bs H) := by
  subst hk; exact decode_oc H a c bs hs hb hc
theorem enc_head (l : List IV) : ((l.length : Nat) : Int) = numOf ((enc l).take 1) := by simp [enc, encTo, numOf]
theorem dec_cut {l : List IV} {k : Nat} (hk : k < (enc l).length) : dec ((enc l).take k) = none := by
  rw [enc_len] at hk
  rcases Nat.eq_zero_or_pos k with rfl | hp
  · exact dec_nil (by simp)
  · have hl : ((enc l).take k).length = k := by rw [List.length_take, enc_len]; omega
    refine dec_len (n := l.length) ?_ (by omega) (by omega)
    rw [List.take_take, Nat.min_eq_left (by omega)]; exact enc_head l
theorem dec_more {l : List IV} {x : Int} : dec (enc l ++ [x]) = none := by
  refine dec_len (n := l.length) ?_ (by simp) (by rw [List.length_append, enc_len]; simp)
  rw [List.take_append_of_le_length (by rw [enc_len]; omega)]; exact enc_head l
theorem enc_bytes {l : List IV} (hz : (chk l).1 = 0) : ∀ x ∈ enc l, Byte x := by
  obtain ⟨hpos, h64, hall, hend⟩ := chk_ok hz
  intro x hx
  simp only [enc, encTo, List.take_length, List.mem_cons, List.mem_flatMap] at hx
  rcases hx with rfl | ⟨y, hy, hx⟩
  · exact ⟨by omega, by omega⟩
  · obtain ⟨j, hj, rfl⟩ := List.getElem_of_mem hy
    obtain ⟨⟨q1, q2⟩, q3, q4⟩ := right_rng (n := l.length) (by omega) (hall j _ (List.getElem?_eq_getElem hj))
    simp only [encE, List.mem_cons, List.not_mem_nil, or_false] at hx
    rcases hx with rfl | rfl | rfl | rfl <;> exact ⟨by omega, by omega⟩
end Go.Proofs.Ytjgilhbponfaaaa
