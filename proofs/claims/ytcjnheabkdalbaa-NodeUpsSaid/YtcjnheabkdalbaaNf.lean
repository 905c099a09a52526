/- Plain laws of nodes: the parts of a span; the spans of proofs. -/
import Derived.Test.YtcjnheabkdalbaaTr
namespace Cop
set_option linter.unusedVariables false
/-- The greatest level, up to L, of a perfect subtree that begins at b and has at most n leaves. -/
def lvA (b n : Nat) : Nat → Nat
  | 0 => 0
  | L + 1 => if b % 2 ^ (L + 1) = 0 ∧ 2 ^ (L + 1) ≤ n then L + 1 else lvA b n L
def lv (b n : Nat) : Nat := lvA b n 48
theorem lvA_le (b n : Nat) : ∀ L, lvA b n L ≤ L
  | 0 => Nat.le_refl _
  | L + 1 => by
    unfold lvA
    split
    · exact Nat.le_refl _
    · have := lvA_le b n L; omega
theorem lvA_dvd (b n : Nat) : ∀ L, b % 2 ^ lvA b n L = 0
  | 0 => by simp [lvA, Nat.mod_one]
  | L + 1 => by
    unfold lvA
    split
    · rename_i h; exact h.1
    · exact lvA_dvd b n L
theorem lvA_pow (b : Nat) {n : Nat} (h : 1 ≤ n) : ∀ L, 2 ^ lvA b n L ≤ n
  | 0 => by simpa [lvA] using h
  | L + 1 => by
    unfold lvA
    split
    · rename_i h; exact h.2
    · exact lvA_pow b h L
theorem lvA_max (b n : Nat) : ∀ L j, lvA b n L < j → j ≤ L → ¬ (b % 2 ^ j = 0 ∧ 2 ^ j ≤ n)
  | 0, j, h, hj => by omega
  | L + 1, j, h, hj => by
    unfold lvA at h
    split at h
    · omega
    · rename_i hn
      by_cases e : j = L + 1
      · subst e; exact hn
      · exact lvA_max b n L j h (by omega)
theorem lv_le (b n : Nat) : lv b n ≤ 48 := lvA_le b n 48
theorem lv_dvd (b n : Nat) : b % 2 ^ lv b n = 0 := lvA_dvd b n 48
theorem lv_pow (b : Nat) {n : Nat} (h : 1 ≤ n) : 2 ^ lv b n ≤ n := lvA_pow b h 48
theorem lv_max (b n : Nat) {j : Nat} (h : lv b n < j) (hj : j ≤ 48) : ¬ (b % 2 ^ j = 0 ∧ 2 ^ j ≤ n) := lvA_max b n 48 j h hj
theorem mod_pow_le {b i j : Nat} (h : b % 2 ^ j = 0) (hij : i ≤ j) : b % 2 ^ i = 0 :=
  Nat.mod_eq_zero_of_dvd (Nat.dvd_trans (Nat.pow_dvd_pow 2 hij) (Nat.dvd_of_mod_eq_zero h))
theorem lv_eq {b n L : Nat} (hn : 1 ≤ n) (hL : L ≤ 48) (h1 : b % 2 ^ L = 0) (h2 : 2 ^ L ≤ n) (h3 : L < 48 → ¬ (b % 2 ^ (L + 1) = 0 ∧ 2 ^ (L + 1) ≤ n)) : lv b n = L := by
  rcases Nat.lt_trichotomy (lv b n) L with h | h | h
  · exact absurd ⟨h1, h2⟩ (lv_max b n h hL)
  · exact h
  · have := lv_le b n
    exact absurd ⟨mod_pow_le (lv_dvd b n) h, Nat.le_trans (Nat.pow_le_pow_right (by decide) h) (lv_pow b hn)⟩ (h3 (by omega))
def partsP (b e : Nat) : List (Nat × Nat) :=
  if h : b < e then (lv b (e - b), b / 2 ^ lv b (e - b)) :: partsP (b + 2 ^ lv b (e - b)) e else []
termination_by e - b
decreasing_by
  have := Nat.pow_pos (n := lv b (e - b)) (show 0 < 2 by decide)
  omega
theorem partsP_nil {b e : Nat} (h : ¬ b < e) : partsP b e = [] := by rw [partsP, dif_neg h]
theorem partsP_cons {b e : Nat} (h : b < e) : partsP b e = (lv b (e - b), b / 2 ^ lv b (e - b)) :: partsP (b + 2 ^ lv b (e - b)) e := by rw [partsP, dif_pos h]
/-- What is told of a span's parts, from at on; f: they have fallen; p: the level of the part before. -/
def Bes (e : Nat) : Nat → Bool → Option Nat → List (Nat × Nat) → Prop
  | at_, f, p, [] => at_ = e
  | at_, f, p, x :: r => (x.1 ≤ 48 ∧ x.2 * 2 ^ x.1 = at_ ∧ at_ + 2 ^ x.1 ≤ e ∧ (∀ q, p = some q → (q < x.1 → f = false) ∧ (x.1 = q → f = false ∧ x.2 % 2 = 0))) ∧
      Bes e (at_ + 2 ^ x.1) (match p with | none => f | some q => f || decide (x.1 ≤ q)) (some x.1) r
theorem two_pow_succ_mod {b L : Nat} (h : b % 2 ^ L = 0) (h2 : b % 2 ^ (L + 1) ≠ 0) : (b + 2 ^ L) % 2 ^ (L + 1) = 0 := by
  obtain ⟨q, rfl⟩ := Nat.dvd_of_mod_eq_zero h
  have h3 : q % 2 = 1 := by
    rcases Nat.mod_two_eq_zero_or_one q with h3 | h3
    · obtain ⟨t, rfl⟩ := Nat.dvd_of_mod_eq_zero h3
      exfalso; apply h2; rw [Nat.pow_succ, ← Nat.mul_assoc]; exact Nat.mul_mod_right _ _
    · exact h3
  have h4 : 2 ^ L * q + 2 ^ L = 2 ^ (L + 1) * (q / 2 + 1) := by
    rw [Nat.pow_succ]
    have : q = 2 * (q / 2) + 1 := by omega
    generalize hq : q / 2 = t at this ⊢
    subst this
    rw [Nat.mul_assoc, show 2 * (t + 1) = 2 * t + 1 + 1 from by omega, Nat.mul_add (2 ^ L) (2 * t + 1) 1]
    omega
  rw [h4]; exact Nat.mul_mod_right _ _
theorem even_of {b L : Nat} (h : b % 2 ^ (L + 1) = 0) : b / 2 ^ L % 2 = 0 := by
  obtain ⟨t, rfl⟩ := Nat.dvd_of_mod_eq_zero h
  rw [Nat.pow_succ, Nat.mul_assoc, Nat.mul_div_cancel_left _ (Nat.pow_pos (by decide))]
  omega
theorem add_pow_mod {b L : Nat} (h : b % 2 ^ L = 0) : (b + 2 ^ L) % 2 ^ L = 0 := by rw [Nat.add_mod_right]; exact h
/-- How it goes on behind a part of level p that ends at at_, c parts being told. -/
theorem bes_on {e : Nat} (he : e ≤ 2 ^ 48) : ∀ (n at_ : Nat) (f : Bool) (p c : Nat), e - at_ ≤ n → at_ ≤ e → p ≤ 48 → 2 ^ p ≤ at_ → at_ % 2 ^ p = 0 → (e - at_ < 2 ^ p ∨ f = false ∧ at_ % 2 ^ (p + 1) = 0) → (f = false → c ≤ p + 1) → (f = true → c + p ≤ 96) →
    Bes e at_ f (some p) (partsP at_ e) ∧ c + (partsP at_ e).length ≤ 96 := by
  intro n
  induction n with
  | zero =>
    intro at_ f p c hn hle hp hpa hmod hor hc1 hc2
    rw [partsP_nil (by omega)]
    refine ⟨show at_ = e by omega, ?_⟩
    cases f with
    | false => have := hc1 rfl; simp; omega
    | true => have := hc2 rfl; simp; omega
  | succ n ih =>
    intro at_ f p c hn hle hp hpa hmod hor hc1 hc2
    by_cases hlt : at_ < e
    · rw [partsP_cons hlt]
      have hp48 : p < 48 := by
        rcases Nat.lt_or_ge p 48 with h | h
        · exact h
        · have : 2 ^ 48 ≤ 2 ^ p := Nat.pow_le_pow_right (by decide) h
          omega
      have l1 := lv_le at_ (e - at_)
      have l2 := lv_dvd at_ (e - at_)
      have l3 := lv_pow at_ (n := e - at_) (by omega)
      have l4 := fun j => lv_max at_ (e - at_) (j := j)
      obtain ⟨L, hL⟩ : ∃ L, lv at_ (e - at_) = L := ⟨_, rfl⟩
      rw [hL] at l1 l2 l3 l4 ⊢
      have hpos : 0 < 2 ^ L := Nat.pow_pos (by decide)
      have hdm : at_ / 2 ^ L * 2 ^ L = at_ := Nat.div_mul_cancel (Nat.dvd_of_mod_eq_zero l2)
      have hL48 : L < 48 := by
        rcases Nat.lt_or_ge L 48 with h | h
        · exact h
        · have : 2 ^ 48 ≤ 2 ^ L := Nat.pow_le_pow_right (by decide) h
          have : 0 < 2 ^ p := Nat.pow_pos (by decide)
          omega
      have hs : 2 ^ (L + 1) = 2 * 2 ^ L := by rw [Nat.pow_succ, Nat.mul_comm]
      have hbelow : at_ % 2 ^ (L + 1) = 0 → e - (at_ + 2 ^ L) < 2 ^ L := fun h => by
        have := l4 (L + 1) (by omega) (by omega)
        have : ¬ 2 ^ (L + 1) ≤ e - at_ := fun h3 => this ⟨h, h3⟩
        omega
      have key : ∀ f' : Bool, f' = (f || decide (L ≤ p)) → (p < L → f = false) → (L = p → f = false ∧ at_ / 2 ^ L % 2 = 0) → (f' = false → c + 1 ≤ L + 1) → (f' = true → c + 1 + L ≤ 96) → (e - (at_ + 2 ^ L) < 2 ^ L ∨ f' = false ∧ (at_ + 2 ^ L) % 2 ^ (L + 1) = 0) →
          Bes e at_ f (some p) ((L, at_ / 2 ^ L) :: partsP (at_ + 2 ^ L) e) ∧ c + ((L, at_ / 2 ^ L) :: partsP (at_ + 2 ^ L) e).length ≤ 96 := by
        intro f' hf' k1 k2 k3 k4 k5
        obtain ⟨r1, r2⟩ := ih (at_ + 2 ^ L) f' L (c + 1) (by omega) (by omega) (by omega) (by omega) (add_pow_mod l2) k5 k3 k4
        refine ⟨⟨⟨l1, hdm, by show at_ + 2 ^ L ≤ e; omega, fun q hq => ?_⟩, by rw [hf'] at r1; exact r1⟩, by simp only [List.length_cons]; omega⟩
        injection hq with hq
        subst hq
        exact ⟨k1, k2⟩
      rcases hor with h | ⟨rfl, h⟩
      · have hLp : L < p := by
          rcases Nat.lt_or_ge L p with h' | h'
          · exact h'
          · have : 2 ^ p ≤ 2 ^ L := Nat.pow_le_pow_right (by decide) h'
            omega
        refine key true (by simp; right; omega) (fun h => by omega) (fun h => by omega) (fun h => by cases h) (fun _ => ?_) (.inl (hbelow (mod_pow_le hmod hLp)))
        cases f with
        | false => have := hc1 rfl; omega
        | true => have := hc2 rfl; omega
      · have hc := hc1 rfl
        rcases Nat.lt_trichotomy p L with h' | h' | h'
        · refine key false (by simp; omega) (fun _ => rfl) (fun h => by omega) (fun _ => by omega) (fun h => by cases h) ?_
          by_cases hm : at_ % 2 ^ (L + 1) = 0
          · exact .inl (hbelow hm)
          · exact .inr ⟨rfl, two_pow_succ_mod l2 hm⟩
        · subst h'
          exact key true (by simp) (fun h => by omega) (fun _ => ⟨rfl, even_of h⟩) (fun h => by cases h) (fun _ => by omega) (.inl (hbelow h))
        · exact key true (by simp; omega) (fun h => by omega) (fun h => by omega) (fun h => by cases h) (fun _ => by omega) (.inl (hbelow (mod_pow_le hmod h')))
    · rw [partsP_nil hlt]
      refine ⟨show at_ = e by omega, ?_⟩
      cases f with
      | false => have := hc1 rfl; simp; omega
      | true => have := hc2 rfl; simp; omega
theorem bes_all {b e : Nat} (hb : b ≤ e) (he : e ≤ 2 ^ 48) : Bes e b false none (partsP b e) ∧ (partsP b e).length ≤ 96 := by
  by_cases hlt : b < e
  · rw [partsP_cons hlt]
    have l1 := lv_le b (e - b)
    have l2 := lv_dvd b (e - b)
    have l3 := lv_pow b (n := e - b) (by omega)
    have l4 := fun j => lv_max b (e - b) (j := j)
    obtain ⟨L, hL⟩ : ∃ L, lv b (e - b) = L := ⟨_, rfl⟩
    rw [hL] at l1 l2 l3 l4 ⊢
    have hs : 2 ^ (L + 1) = 2 * 2 ^ L := by rw [Nat.pow_succ, Nat.mul_comm]
    have hpos : 0 < 2 ^ L := Nat.pow_pos (by decide)
    have hdm : b / 2 ^ L * 2 ^ L = b := Nat.div_mul_cancel (Nat.dvd_of_mod_eq_zero l2)
    have hor : e - (b + 2 ^ L) < 2 ^ L ∨ false = false ∧ (b + 2 ^ L) % 2 ^ (L + 1) = 0 := by
      by_cases h48 : L = 48
      · subst h48; left; omega
      · by_cases hm : b % 2 ^ (L + 1) = 0
        · left
          have := l4 (L + 1) (by omega) (by omega)
          have : ¬ 2 ^ (L + 1) ≤ e - b := fun h3 => this ⟨hm, h3⟩
          omega
        · exact .inr ⟨rfl, two_pow_succ_mod l2 hm⟩
    obtain ⟨r1, r2⟩ := bes_on he (e - (b + 2 ^ L)) (b + 2 ^ L) false L 1 (Nat.le_refl _) (by omega) l1 (by omega) (add_pow_mod l2) hor (fun _ => by omega) (fun h => by cases h)
    refine ⟨⟨⟨l1, hdm, by show b + 2 ^ L ≤ e; omega, fun q hq => by cases hq⟩, r1⟩, by simp only [List.length_cons]; omega⟩
  · rw [partsP_nil hlt]
    exact ⟨show b = e by omega, by simp⟩
/-- The spans of an inclusion proof's digests. -/
def spansP (i b n : Nat) : List (Nat × Nat) :=
  if h : n < 2 then [] else if i < b + hf n then spansP i b (hf n) ++ [(b + hf n, b + n)] else spansP i (b + hf n) (n - hf n) ++ [(b, b + hf n)]
termination_by n
decreasing_by
  · exact hf_lt (by omega)
  · have := hf_pos n; omega
theorem spansP_one {i b n : Nat} (h : n < 2) : spansP i b n = [] := by rw [spansP, dif_pos h]
theorem spansP_lt {i b n : Nat} (h : 2 ≤ n) (hi : i < b + hf n) : spansP i b n = spansP i b (hf n) ++ [(b + hf n, b + n)] := by rw [spansP, dif_neg (by omega), if_pos hi]
theorem spansP_ge {i b n : Nat} (h : 2 ≤ n) (hi : ¬ i < b + hf n) : spansP i b n = spansP i (b + hf n) (n - hf n) ++ [(b, b + hf n)] := by rw [spansP, dif_neg (by omega), if_neg hi]
theorem spansP_len : ∀ (j n i b : Nat), n ≤ 2 ^ j → (spansP i b n).length ≤ j := by
  intro j
  induction j with
  | zero => intro n i b hn; rw [spansP_one (by simp at hn; omega)]; exact Nat.le_refl _
  | succ j ih =>
    intro n i b hn
    rcases Nat.lt_or_ge n 2 with h | h
    · rw [spansP_one h]; exact Nat.zero_le _
    · have h1 := hf_le h hn
      have h2 := hf_ge h
      by_cases hi : i < b + hf n
      · rw [spansP_lt h hi, List.length_append]; have := ih (hf n) i b h1; simp; omega
      · rw [spansP_ge h hi, List.length_append]; have := ih (n - hf n) i (b + hf n) (by omega); simp; omega
/-- From the span lo..hi by neighbours to the span a..z. -/
def Cov (a z : Nat) : Nat → Nat → List (Nat × Nat) → Prop
  | lo, hi, [] => lo = a ∧ hi = z
  | lo, hi, x :: r => (x.1 < x.2 ∧ (x.2 = lo ∨ x.1 = hi)) ∧ Cov a z (min lo x.1) (max hi x.2) r
theorem cov_snoc {a z a' z' x y : Nat} (h1 : x < y) (h2 : y = a ∨ x = z) (ha : a' = min a x) (hz : z' = max z y) : ∀ (l : List (Nat × Nat)) (lo hi : Nat), Cov a z lo hi l → Cov a' z' lo hi (l ++ [(x, y)])
  | [], lo, hi, h => by
    obtain ⟨rfl, rfl⟩ := h
    exact ⟨⟨h1, h2⟩, ha.symm, hz.symm⟩
  | _ :: r, lo, hi, h => ⟨h.1, cov_snoc h1 h2 ha hz r _ _ h.2⟩
theorem cov_spans : ∀ (n b i : Nat), b ≤ i → i < b + n → Cov b (b + n) i (i + 1) (spansP i b n) := by
  intro n
  induction n using Nat.strongRecOn with
  | ind n ih =>
    intro b i h1 h2
    rcases Nat.lt_or_ge n 2 with h | h
    · rw [spansP_one h]; exact ⟨by omega, by omega⟩
    · have k1 := hf_pos n
      have k2 := hf_lt h
      by_cases hi : i < b + hf n
      · rw [spansP_lt h hi]
        exact cov_snoc (by omega) (by omega) (by omega) (by omega) _ _ _ (ih (hf n) k2 b i h1 hi)
      · rw [spansP_ge h hi]
        have := ih (n - hf n) (by omega) (b + hf n) i (by omega) (by omega)
        rw [show b + hf n + (n - hf n) = b + n from by omega] at this
        exact cov_snoc (by omega) (by omega) (by omega) (by omega) _ _ _ this
/-- The spans of a consistency proof's digests. -/
def stepsP (m b n : Nat) (whole : Bool) : List (Nat × Nat) :=
  if h : n < 2 ∨ m = n then (if whole then [] else [(b, b + n)]) else if m ≤ hf n then stepsP m b (hf n) whole ++ [(b + hf n, b + n)] else stepsP (m - hf n) (b + hf n) (n - hf n) false ++ [(b, b + hf n)]
termination_by n
decreasing_by
  · exact hf_lt (by omega)
  · have := hf_pos n; omega
theorem stepsP_end {m b n : Nat} {w : Bool} (h : n < 2 ∨ m = n) : stepsP m b n w = if w then [] else [(b, b + n)] := by rw [stepsP, dif_pos h]
theorem stepsP_le {m b n : Nat} {w : Bool} (h : 2 ≤ n) (hm : m ≠ n) (hi : m ≤ hf n) : stepsP m b n w = stepsP m b (hf n) w ++ [(b + hf n, b + n)] := by rw [stepsP, dif_neg (by omega), if_pos hi]
theorem stepsP_gt {m b n : Nat} {w : Bool} (h : 2 ≤ n) (hm : m ≠ n) (hi : ¬ m ≤ hf n) : stepsP m b n w = stepsP (m - hf n) (b + hf n) (n - hf n) false ++ [(b, b + hf n)] := by rw [stepsP, dif_neg (by omega), if_neg hi]
theorem stepsP_len : ∀ (j n m b : Nat) (w : Bool), n ≤ 2 ^ j → (stepsP m b n w).length ≤ j + 1 := by
  intro j
  induction j with
  | zero => intro n m b w hn; rw [stepsP_end (.inl (by simp at hn; omega))]; split <;> simp
  | succ j ih =>
    intro n m b w hn
    by_cases h : n < 2 ∨ m = n
    · rw [stepsP_end h]; split <;> simp
    · have h0 : 2 ≤ n := by omega
      have h1 := hf_le h0 hn
      have h2 := hf_ge h0
      by_cases hi : m ≤ hf n
      · rw [stepsP_le h0 (by omega) hi, List.length_append]; have := ih (hf n) m b w h1; simp; omega
      · rw [stepsP_gt h0 (by omega) hi, List.length_append]; have := ih (n - hf n) (m - hf n) (b + hf n) false (by omega); simp; omega
theorem steps_part : ∀ (n b m : Nat), 1 ≤ m → m ≤ n → ∃ x r, stepsP m b n false = (x, b + m) :: r ∧ b ≤ x ∧ x < b + m ∧ Cov b (b + n) x (b + m) r := by
  intro n
  induction n using Nat.strongRecOn with
  | ind n ih =>
    intro b m h1 h2
    by_cases h : n < 2 ∨ m = n
    · have : m = n := by omega
      subst this
      rw [stepsP_end h]
      exact ⟨b, [], rfl, by omega, by omega, rfl, rfl⟩
    · have h0 : 2 ≤ n := by omega
      have k1 := hf_pos n
      have k2 := hf_lt h0
      by_cases hi : m ≤ hf n
      · rw [stepsP_le h0 (by omega) hi]
        obtain ⟨x, r, hr, hx, hx2, hc⟩ := ih (hf n) k2 b m h1 hi
        exact ⟨x, r ++ [(b + hf n, b + n)], by rw [hr]; rfl, hx, hx2, cov_snoc (by omega) (by omega) (by omega) (by omega) _ _ _ hc⟩
      · rw [stepsP_gt h0 (by omega) hi]
        obtain ⟨x, r, hr, hx, hx2, hc⟩ := ih (n - hf n) (by omega) (b + hf n) (m - hf n) (by omega) (by omega)
        rw [show b + hf n + (m - hf n) = b + m from by omega] at hr hx2 hc
        rw [show b + hf n + (n - hf n) = b + n from by omega] at hc
        exact ⟨x, r ++ [(b, b + hf n)], by rw [hr]; rfl, by omega, hx2, cov_snoc (by omega) (by omega) (by omega) (by omega) _ _ _ hc⟩
theorem hf_is_pow (n : Nat) : ∃ j, hf n = 2 ^ j := ⟨_, rfl⟩
theorem steps_whole : ∀ (n m : Nat), 1 ≤ m → m < n →
    (∃ j, m = 2 ^ j ∧ Cov 0 n 0 m (stepsP m 0 n true)) ∨ (∃ j x r, 2 ^ j < m ∧ m < 2 ^ (j + 1) ∧ stepsP m 0 n true = (x, m) :: r ∧ x < m ∧ Cov 0 n x m r) := by
  intro n
  induction n using Nat.strongRecOn with
  | ind n ih =>
    intro m h1 h2
    have h0 : 2 ≤ n := by omega
    have k1 := hf_pos n
    have k2 := hf_lt h0
    have k3 := hf_ge h0
    by_cases hi : m ≤ hf n
    · rw [stepsP_le h0 (by omega) hi, Nat.zero_add, Nat.zero_add]
      by_cases he : m = hf n
      · obtain ⟨j, hj⟩ := hf_is_pow n
        refine .inl ⟨j, by omega, ?_⟩
        rw [stepsP_end (.inr he)]
        exact ⟨⟨k2, .inr he.symm⟩, by show min 0 _ = 0; omega, by show max m n = n; omega⟩
      · rcases ih (hf n) k2 m h1 (by omega) with ⟨j, hj, hc⟩ | ⟨j, x, r, h3, h4, hr, hx, hc⟩
        · exact .inl ⟨j, hj, cov_snoc (by omega) (by omega) (by omega) (by omega) _ _ _ hc⟩
        · exact .inr ⟨j, x, r ++ [(hf n, n)], h3, h4, by rw [hr]; rfl, hx, cov_snoc (by omega) (by omega) (by omega) (by omega) _ _ _ hc⟩
    · rw [stepsP_gt h0 (by omega) hi, Nat.zero_add]
      obtain ⟨x, r, hr, hx, hx2, hc⟩ := steps_part (n - hf n) (hf n) (m - hf n) (by omega) (by omega)
      rw [show hf n + (m - hf n) = m from by omega] at hr hx2 hc
      rw [show hf n + (n - hf n) = n from by omega] at hc
      obtain ⟨j, hj⟩ := hf_is_pow n
      refine .inr ⟨j, x, r ++ [(0, hf n)], by omega, by rw [Nat.pow_succ]; omega, by rw [hr]; rfl, hx2, cov_snoc (by omega) (by omega) (by omega) (by omega) _ _ _ hc⟩
theorem and_pow (j : Nat) : (2 ^ j) &&& (2 ^ j - 1) = 0 := by rw [Nat.and_two_pow_sub_one_eq_mod, Nat.mod_self]
theorem and_not_pow {m j : Nat} (h1 : 2 ^ j < m) (h2 : m < 2 ^ (j + 1)) : m &&& (m - 1) ≠ 0 := by
  intro h
  have t1 : m.testBit j = true := Nat.testBit_of_two_pow_le_and_two_pow_add_one_gt (Nat.le_of_lt h1) h2
  have t2 : (m - 1).testBit j = true := Nat.testBit_of_two_pow_le_and_two_pow_add_one_gt (by omega) (by omega)
  have := congrArg (fun x => x.testBit j) h
  simp [t1, t2] at this
end Cop
