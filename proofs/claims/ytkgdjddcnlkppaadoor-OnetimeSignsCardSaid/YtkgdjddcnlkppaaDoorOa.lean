/- The digits that a digest signs: plain. -/
import Derived.Test.YtkgdjddcnlkppaaDoorArr
namespace Cop
/-- Digit number i of a digest's bytes. -/
def dig (d : List UInt8) (i : Nat) : Nat := (d.getD (i / 4) 0).toNat / 2 ^ (6 - 2 * (i % 4)) % 4
/-- What the first n digits lack. -/
def lack (d : List UInt8) : Nat → Nat
  | 0 => 0
  | n + 1 => lack d n + (3 - dig d n)
theorem dig_lt (d : List UInt8) (i : Nat) : dig d i < 4 := Nat.mod_lt _ (by decide)
theorem lack_le (d : List UInt8) (n : Nat) : lack d n ≤ 3 * n := by
  induction n with
  | zero => simp [lack]
  | succ n ih => simp only [lack]; omega
/-- All digits: place i below 133. -/
def dgt (d : List UInt8) (i : Nat) : Nat := if i < 128 then dig d i else lack d 128 / 4 ^ (132 - i) % 4
theorem dgt_lt (d : List UInt8) (i : Nat) : dgt d i < 4 := by
  unfold dgt; split
  · exact dig_lt d i
  · exact Nat.mod_lt _ (by decide)
/-- The first n of all digits. -/
def dgts (d : List UInt8) (n : Nat) : List Nat := (List.range n).map (dgt d)
theorem dgts_length (d : List UInt8) (n : Nat) : (dgts d n).length = n := by simp [dgts]
theorem dgts_get (d : List UInt8) (n i : Nat) (h : i < n) : (dgts d n)[i]? = some (dgt d i) := by simp [dgts, h]
theorem byte_of_digs (x : Nat) (h : x < 256) : x = 64 * (x / 2 ^ 6 % 4) + 16 * (x / 2 ^ 4 % 4) + 4 * (x / 2 ^ 2 % 4) + x / 2 ^ 0 % 4 := by omega
/-- Digests of the same digits are the same. -/
theorem same_of_digs (a b : List UInt8) (ha : a.length = 32) (hb : b.length = 32) (h : ∀ i, i < 128 → dig a i = dig b i) : a = b := by
  apply List.ext_getElem (by omega)
  intro k h1 h2
  have d0 := h (4 * k) (by omega)
  have d1 := h (4 * k + 1) (by omega)
  have d2 := h (4 * k + 2) (by omega)
  have d3 := h (4 * k + 3) (by omega)
  simp only [dig, show 4 * k / 4 = k from by omega, show (4 * k + 1) / 4 = k from by omega, show (4 * k + 2) / 4 = k from by omega, show (4 * k + 3) / 4 = k from by omega,
    show 4 * k % 4 = 0 from by omega, show (4 * k + 1) % 4 = 1 from by omega, show (4 * k + 2) % 4 = 2 from by omega, show (4 * k + 3) % 4 = 3 from by omega,
    show 6 - 2 * 0 = 6 from rfl, show 6 - 2 * 1 = 4 from rfl, show 6 - 2 * 2 = 2 from rfl, show 6 - 2 * 3 = 0 from rfl] at d0 d1 d2 d3
  have e1 : a.getD k 0 = a[k] := by simp [List.getD, h1]
  have e2 : b.getD k 0 = b[k] := by simp [List.getD, h2]
  rw [e1, e2] at d0 d1 d2 d3
  have x1 := byte_of_digs a[k].toNat (UInt8.toNat_lt _)
  have x2 := byte_of_digs b[k].toNat (UInt8.toNat_lt _)
  apply UInt8.toNat_inj.1
  rw [x1, x2, d0, d1, d2, d3]
/-- Who has nowhere more lacks no less. -/
theorem lack_mono (a b : List UInt8) (n : Nat) (h : ∀ i, i < n → dig a i ≤ dig b i) : lack b n ≤ lack a n := by
  induction n with
  | zero => simp [lack]
  | succ n ih =>
    have := ih fun i hi => h i (by omega)
    have := h n (by omega)
    simp only [lack]; omega
theorem lack_strict (a b : List UInt8) (n : Nat) (h : ∀ i, i < n → dig a i ≤ dig b i) (k : Nat) (hk : k < n) (hs : dig a k < dig b k) : lack b n < lack a n := by
  induction n with
  | zero => omega
  | succ n ih =>
    have h1 := h n (by omega)
    have hb := dig_lt b n
    simp only [lack]
    by_cases hkn : k = n
    · subst hkn
      have := lack_mono a b k fun i hi => h i (by omega)
      omega
    · have := ih (fun i hi => h i (by omega)) (by omega)
      omega
theorem num4 (S : Nat) (h : S ≤ 384) : S = S / 1 % 4 + 4 * (S / 4 % 4) + 16 * (S / 16 % 4) + 64 * (S / 64 % 4) + 256 * (S / 256 % 4) := by omega
/-- Of unlike digests one has somewhere less. -/
theorem some_less (a b : List UInt8) (ha : a.length = 32) (hb : b.length = 32) (hne : a ≠ b) : ∃ i, i < 133 ∧ dgt a i < dgt b i := by
  rcases Classical.em (∃ i, i < 133 ∧ dgt a i < dgt b i) with h | h
  · exact h
  · exfalso
    have h0 : ∀ i, i < 133 → dgt b i ≤ dgt a i := fun i hi => by
      rcases Nat.lt_or_ge (dgt a i) (dgt b i) with hl | hl
      · exact absurd ⟨i, hi, hl⟩ h
      · exact hl
    have hd : ∀ i, i < 128 → dig b i ≤ dig a i := fun i hi => by
      have := h0 i (by omega)
      simpa [dgt, hi] using this
    have hex : ∃ k, k < 128 ∧ dig b k < dig a k := by
      rcases Classical.em (∃ k, k < 128 ∧ dig b k < dig a k) with h1 | h1
      · exact h1
      · refine absurd (same_of_digs a b ha hb fun i hi => ?_) hne
        have := hd i hi
        rcases Nat.lt_or_ge (dig b i) (dig a i) with hl | hl
        · exact absurd ⟨i, hi, hl⟩ h1
        · omega
    obtain ⟨k, hk, hs⟩ := hex
    have hl := lack_strict b a 128 hd k hk hs
    have ea := lack_le a 128
    have eb := lack_le b 128
    have t0 := h0 132 (by omega)
    have t1 := h0 131 (by omega)
    have t2 := h0 130 (by omega)
    have t3 := h0 129 (by omega)
    have t4 := h0 128 (by omega)
    simp only [dgt, show ¬ (132 < 128) from by omega, show ¬ (131 < 128) from by omega, show ¬ (130 < 128) from by omega, show ¬ (129 < 128) from by omega, show ¬ (128 < 128) from by omega, if_false,
      show 132 - 132 = 0 from rfl, show 132 - 131 = 1 from rfl, show 132 - 130 = 2 from rfl, show 132 - 129 = 3 from rfl, show 132 - 128 = 4 from rfl,
      show 4 ^ 0 = 1 from rfl, show 4 ^ 1 = 4 from rfl, show 4 ^ 2 = 16 from rfl, show 4 ^ 3 = 64 from rfl, show 4 ^ 4 = 256 from rfl] at t0 t1 t2 t3 t4
    have na := num4 _ (show lack a 128 ≤ 384 by omega)
    have nb := num4 _ (show lack b 128 ≤ 384 by omega)
    generalize lack a 128 / 1 % 4 = a0 at *
    generalize lack a 128 / 4 % 4 = a1 at *
    generalize lack a 128 / 16 % 4 = a2 at *
    generalize lack a 128 / 64 % 4 = a3 at *
    generalize lack a 128 / 256 % 4 = a4 at *
    generalize lack b 128 / 1 % 4 = b0 at *
    generalize lack b 128 / 4 % 4 = b1 at *
    generalize lack b 128 / 16 % 4 = b2 at *
    generalize lack b 128 / 64 % 4 = b3 at *
    generalize lack b 128 / 256 % 4 = b4 at *
    clear h h0 hd
    omega
/-- Has one of the first n digits of a less than b's? -/
def les (a b : List UInt8) : Nat → Bool
  | 0 => false
  | n + 1 => les a b n || decide (dgt a n < dgt b n)
theorem les_iff (a b : List UInt8) (n : Nat) : les a b n = true ↔ ∃ i, i < n ∧ dgt a i < dgt b i := by
  induction n with
  | zero => simp [les]
  | succ n ih =>
    rw [les, Bool.or_eq_true, ih, decide_eq_true_eq]
    constructor
    · rintro (⟨i, hi, h⟩ | h)
      · exact ⟨i, by omega, h⟩
      · exact ⟨n, by omega, h⟩
    · rintro ⟨i, hi, h⟩
      rcases Nat.lt_or_ge i n with hin | hin
      · exact .inl ⟨i, hin, h⟩
      · have : i = n := by omega
        subst this; exact .inr h
theorem les_self (a : List UInt8) (n : Nat) : les a a n = false := by
  rw [← Bool.not_eq_true, les_iff]
  rintro ⟨i, _, h⟩; omega
theorem les_ne (a b : List UInt8) (ha : a.length = 32) (hb : b.length = 32) (hne : a ≠ b) : les a b 133 = true := (les_iff a b 133).2 (some_less a b ha hb hne)
end Cop
