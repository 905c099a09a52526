/- Rounds that write one row and the slice in it: all else stays. Plain laws of nodes: the parts of a span; the spans of proofs. Compact ranges in plain Lean: a stack of perfect subtrees (the last one first), what is put behind, its root. A writer that is passed over in a drawn region. Compact ranges as they lie in memory. Pairs of numbers in slices of nodes. What a compact range is, in plain Lean; what is put behind, whatever it is. AppendNode: a perfect subtree is put behind a compact range. compact's nodes: the parts of a span. -/
import Derived.Test.YtlhebogbbkjahaaDoorRf
import Derived.Test.YtlhebogbbkjahaaDoorTr
import Derived.Test.YtlhebogbbkjahaaDoorOg
import Derived.Test.YtlhebogbbkjahaaDoorRp
set_option linter.unusedVariables false
namespace Cop
open Go Go.RowKit
/-- What a row and the slice in one of its cells own. -/
def Owns (g off : Nat) (W : World) (k : Nat) : Prop := k = g ∨ ∃ v, W.cell? ⟨g, off, none⟩ = some v ∧ vblk v = some k
/-- The cells that lie from n₀ on stay, but for what the row owns. -/
def Stays (n₀ g off : Nat) (W W' : World) : Prop := W.heap.size ≤ W'.heap.size ∧ ∀ k o, n₀ ≤ k → W.heap[k]? = some o → o.isCells = true → ¬ Owns g off W k → W'.heap[k]? = some o ∧ ¬ Owns g off W' k
theorem Stays.refl (n₀ g off : Nat) (W : World) : Stays n₀ g off W W := ⟨Nat.le_refl _, fun _ _ _ h _ h2 => ⟨h, h2⟩⟩
theorem Stays.trans {n₀ g off : Nat} {A B C : World} (h : Stays n₀ g off A B) (k : Stays n₀ g off B C) : Stays n₀ g off A C :=
  ⟨Nat.le_trans h.1 k.1, fun i o hi ho hc hn => k.2 i o hi (h.2 i o hi ho hc hn).1 hc (h.2 i o hi ho hc hn).2⟩
theorem stays_b {n₀ g off : Nat} {w : World} (hg : g < w.heap.size) (W : World) (l : Nat) (o o' : Obj) (hl : w.heap.size ≤ l) (h : W.heap[l]? = some o) (hc : o.isCells = false) (_ : o.isWalk = false) : Stays n₀ g off W (W.putObj l o') := by
  have hgl : g ≠ l := by omega
  refine ⟨by simp, fun k o2 _ hk hc2 hn => ?_⟩
  have hkl : k ≠ l := by
    intro e
    subst e
    rw [h] at hk
    injection hk with hk
    subst hk
    rw [hc] at hc2; cases hc2
  refine ⟨(World.putObj_heap_other hkl).trans hk, ?_⟩
  rintro (h1 | ⟨v, h1, h2⟩)
  · exact hn (.inl h1)
  · refine hn (.inr ⟨v, ?_, h2⟩)
    rw [← h1]
    exact (World.cell?_of_block (w := W) (a := ⟨g, off, none⟩) (World.putObj_heap_other hgl)).symm
theorem owns_same {g off : Nat} {W W' : World} (h : W'.heap[g]? = W.heap[g]?) (k : Nat) : Owns g off W' k ↔ Owns g off W k := by
  unfold Owns
  rw [World.cell?_of_block (w := W) (w' := W') (a := ⟨g, off, none⟩) h]
theorem stays_below {n₀ g off : Nat} {W W' : World} (hg : g < W.heap.size) (hb : Below W.heap.size W W') : Stays n₀ g off W W' :=
  ⟨hb.size, fun k o _ hk _ hn => ⟨(hb.block k (Array.getElem?_eq_some_iff.1 hk).1).trans hk, fun h => hn ((owns_same (hb.block g hg) k).1 h)⟩⟩
/-- A cell of the row is written with what owns nothing. -/
theorem stays_cell {n₀ g off : Nat} {W : World} {old : Array Value} {t : TypeId} {fr : Nat × Nat} (h : W.heap[g]? = some (.cells old t fr)) (u : Value) (hu : vblk u = none) : Stays n₀ g off W (W.setCell ⟨g, off, none⟩ u) := by
  refine ⟨by simp [World.setCell], fun k o _ hk _ hn => ?_⟩
  have hkg : k ≠ g := fun e => hn (.inl e)
  refine ⟨(Below.heap_setCell W _ u k hkg).trans hk, ?_⟩
  rintro (h1 | ⟨v, h1, h2⟩)
  · exact hn (.inl h1)
  · have h3 := h1
    rw [row_cell (row_set h off u)] at h3
    simp only [Array.getElem?_setIfInBounds] at h3
    split at h3
    · split at h3
      · injection h3 with h3; subst h3; rw [hu] at h2; cases h2
      · cases h3
    · exact absurd trivial ‹¬True›
theorem keeps_cell {W : World} {g off : Nat} {old : Array Value} {t : TypeId} {fr : Nat × Nat} (h : W.heap[g]? = some (.cells old t fr)) (u : Value) : KeepsOthers W (W.setCell ⟨g, off, none⟩ u) := by
  refine ⟨by simp [World.setCell], fun k o hk ho => ?_⟩
  have hkg : k ≠ g := by
    intro e
    subst e
    rw [h] at hk
    injection hk with hk
    subst hk
    cases ho
  exact (Below.heap_setCell W _ u k hkg).trans hk
/-- All objects from n₀ on, but for a row and a slice. -/
def heldAll (W : World) (n₀ g : Nat) (v : Value) : List Pc :=
  (List.range W.heap.size).filterMap fun k => if n₀ ≤ k ∧ k ≠ g ∧ vblk v ≠ some k then (W.heap[k]?).map (Pc.obj k) else none
theorem mem_heldAll {W : World} {n₀ g : Nat} {v : Value} {p : Pc} : p ∈ heldAll W n₀ g v ↔ ∃ k o, n₀ ≤ k ∧ k ≠ g ∧ vblk v ≠ some k ∧ W.heap[k]? = some o ∧ p = .obj k o := by
  unfold heldAll
  rw [List.mem_filterMap]
  constructor
  · rintro ⟨k, hk, h⟩
    split at h
    · rename_i hc
      obtain ⟨o, ho, he⟩ := Option.map_eq_some_iff.1 h
      exact ⟨k, o, hc.1, hc.2.1, hc.2.2, ho, he.symm⟩
    · cases h
  · rintro ⟨k, o, h1, h2, h3, h4, rfl⟩
    refine ⟨k, List.mem_range.2 (Array.getElem?_eq_some_iff.1 h4).1, ?_⟩
    rw [if_pos ⟨h1, h2, h3⟩, h4]
    rfl
theorem pairwise_all {α : Type} {P : α → α → Prop} : ∀ {l : List α}, (∀ a ∈ l, ∀ b ∈ l, P a b) → l.Pairwise P
  | [], _ => List.Pairwise.nil
  | a :: l, h => List.pairwise_cons.2 ⟨fun b hb => h a List.mem_cons_self b (List.mem_cons_of_mem _ hb), pairwise_all fun x hx y hy => h x (List.mem_cons_of_mem _ hx) y (List.mem_cons_of_mem _ hy)⟩
section
variable {w0 W W' : World} {B n₀ g : Nat} {R : List Pc} {cs cs' : Array Value} {t t' : TypeId} {v v' : Value} {e e' : TypeId} {size n size' n' : Nat} {xs xs' : List Value}
theorem round_all (h : Sep B w0 W (.row g cs t :: .own v e size n xs :: R)) (hR : ∀ p ∈ R, ∀ k, p.blk = some k → k < n₀) : Sep B W W (.row g cs t :: .own v e size n xs :: (R ++ heldAll W n₀ g v)) := by
  have h2 := h.far
  rw [List.pairwise_cons, List.pairwise_cons] at h2
  obtain ⟨f1, f2, f3⟩ := h2
  refine ⟨Below.refl _ _, h.hB, fun p hp => ?_, ?_⟩
  · rcases List.mem_cons.1 hp with rfl | hp
    · exact h.all _ List.mem_cons_self
    rcases List.mem_cons.1 hp with rfl | hp
    · exact h.all _ (List.mem_cons_of_mem _ List.mem_cons_self)
    rcases List.mem_append.1 hp with hp | hp
    · exact h.all _ (List.mem_cons_of_mem _ (List.mem_cons_of_mem _ hp))
    · obtain ⟨k, o, _, _, _, h4, rfl⟩ := mem_heldAll.1 hp
      exact h4
  · rw [List.pairwise_cons, List.pairwise_cons]
    refine ⟨fun q hq => ?_, fun q hq => ?_, ?_⟩
    · rcases List.mem_cons.1 hq with rfl | hq
      · exact f1 _ List.mem_cons_self
      rcases List.mem_append.1 hq with hq | hq
      · exact f1 _ (List.mem_cons_of_mem _ hq)
      · obtain ⟨k, o, _, h2, _, _, rfl⟩ := mem_heldAll.1 hq
        exact .inr fun i hi hj => by
          simp only [Pc.blk, Option.some.injEq] at hi hj
          omega
    · rcases List.mem_append.1 hq with hq | hq
      · exact f2 _ hq
      · obtain ⟨k, o, _, _, h3, _, rfl⟩ := mem_heldAll.1 hq
        exact .inr fun i hi hj => by
          simp only [Pc.blk, Option.some.injEq] at hi hj
          subst hj
          exact h3 hi
    · refine List.pairwise_append.2 ⟨f3, pairwise_all fun a ha b hb => ?_, fun a ha b hb => ?_⟩
      · obtain ⟨k, o, _, _, _, _, rfl⟩ := mem_heldAll.1 ha
        obtain ⟨k2, o2, _, _, _, _, rfl⟩ := mem_heldAll.1 hb
        exact .inl ⟨rfl, rfl⟩
      · obtain ⟨k2, o2, h1, _, _, _, rfl⟩ := mem_heldAll.1 hb
        exact .inr fun i hi hj => by
          simp only [Pc.blk, Option.some.injEq] at hj
          have := hR a ha i hi
          omega
theorem round_back {off : Nat} (h : Sep B w0 W (.row g cs t :: .own v e size n xs :: R)) (hg : W.cell? ⟨g, off, none⟩ = some v) (h' : Sep B W W' (.row g cs' t' :: .own v' e' size' n' xs' :: (R ++ heldAll W n₀ g v))) (hg' : W'.cell? ⟨g, off, none⟩ = some v') :
    Sep B w0 W' (.row g cs' t' :: .own v' e' size' n' xs' :: R) ∧ Stays n₀ g off W W' ∧ KeepsFrom n₀ W W' := by
  have hsub : List.Sublist (.row g cs' t' :: .own v' e' size' n' xs' :: R) (.row g cs' t' :: .own v' e' size' n' xs' :: (R ++ heldAll W n₀ g v)) := ((List.sublist_append_left R _).cons_cons _).cons_cons _
  have h3 := h'.sub hsub
  have key : ∀ k o, n₀ ≤ k → W.heap[k]? = some o → k ≠ g → vblk v ≠ some k → W'.heap[k]? = some o ∧ ¬ Owns g off W' k := fun k o hk ho h1 h2 => by
    have hm : Pc.obj k o ∈ heldAll W n₀ g v := mem_heldAll.2 ⟨k, o, hk, h1, h2, ho, rfl⟩
    have hm2 : Pc.obj k o ∈ R ++ heldAll W n₀ g v := List.mem_append_right _ hm
    refine ⟨h'.all _ (List.mem_cons_of_mem _ (List.mem_cons_of_mem _ hm2)), ?_⟩
    rintro (e | ⟨u, hu, hv⟩)
    · exact h1 e
    · rw [hg'] at hu
      injection hu with hu
      subst hu
      have hf := (List.pairwise_cons.1 (List.pairwise_cons.1 h'.far).2).1 _ hm2
      rcases hf with hf | hf
      · cases hf.1
      · exact hf k hv rfl
  refine ⟨⟨h.hb.trans h3.hb, h3.hB, h3.all, h3.far⟩, ⟨h3.hb.size, fun k o hk ho hc hn => ?_⟩, ⟨h3.hb.size, fun k o hk ho hc => ?_⟩⟩
  · exact key k o hk ho (fun e => hn (.inl e)) (fun e => hn (.inr ⟨v, hg, e⟩))
  · refine (key k o hk ho ?_ ?_).1
    · intro e
      subst e
      have := (h.all _ List.mem_cons_self).2
      rw [ho] at this
      injection this with this
      subst this
      cases hc
    · intro hv
      have hO := h.all (.own v e size n xs) (List.mem_cons_of_mem _ List.mem_cons_self)
      obtain ⟨c2, t2, fr, h4⟩ := Pc.cells (p := .own v e size n xs) rfl hO k hv
      rw [ho] at h4
      injection h4 with h4
      subst h4
      cases hc
end
end Cop
namespace Cop
set_option linter.unusedVariables false
/-- The greatest level, up to L, of a perfect subtree that begins at b and has at most n leaves. -/
def lvA (b n : Nat) : Nat → Nat
  | 0 => 0
  | L + 1 => if b % 2 ^ (L + 1) = 0 ∧ 2 ^ (L + 1) ≤ n then L + 1 else lvA b n L
def lv (b n : Nat) : Nat := lvA b n 48
theorem lvA_le (b n : Nat) : ∀ L, lvA b n L ≤ L
  | 0 => Nat.le_refl _
  | L + 1 => by
    unfold lvA
    split
    · exact Nat.le_refl _
    · have := lvA_le b n L; omega
theorem lvA_dvd (b n : Nat) : ∀ L, b % 2 ^ lvA b n L = 0
  | 0 => by simp [lvA, Nat.mod_one]
  | L + 1 => by
    unfold lvA
    split
    · rename_i h; exact h.1
    · exact lvA_dvd b n L
theorem lvA_pow (b : Nat) {n : Nat} (h : 1 ≤ n) : ∀ L, 2 ^ lvA b n L ≤ n
  | 0 => by simpa [lvA] using h
  | L + 1 => by
    unfold lvA
    split
    · rename_i h; exact h.2
    · exact lvA_pow b h L
theorem lvA_max (b n : Nat) : ∀ L j, lvA b n L < j → j ≤ L → ¬ (b % 2 ^ j = 0 ∧ 2 ^ j ≤ n)
  | 0, j, h, hj => by omega
  | L + 1, j, h, hj => by
    unfold lvA at h
    split at h
    · omega
    · rename_i hn
      by_cases e : j = L + 1
      · subst e; exact hn
      · exact lvA_max b n L j h (by omega)
theorem lv_le (b n : Nat) : lv b n ≤ 48 := lvA_le b n 48
theorem lv_dvd (b n : Nat) : b % 2 ^ lv b n = 0 := lvA_dvd b n 48
theorem lv_pow (b : Nat) {n : Nat} (h : 1 ≤ n) : 2 ^ lv b n ≤ n := lvA_pow b h 48
theorem lv_max (b n : Nat) {j : Nat} (h : lv b n < j) (hj : j ≤ 48) : ¬ (b % 2 ^ j = 0 ∧ 2 ^ j ≤ n) := lvA_max b n 48 j h hj
theorem mod_pow_le {b i j : Nat} (h : b % 2 ^ j = 0) (hij : i ≤ j) : b % 2 ^ i = 0 :=
  Nat.mod_eq_zero_of_dvd (Nat.dvd_trans (Nat.pow_dvd_pow 2 hij) (Nat.dvd_of_mod_eq_zero h))
theorem lv_eq {b n L : Nat} (hn : 1 ≤ n) (hL : L ≤ 48) (h1 : b % 2 ^ L = 0) (h2 : 2 ^ L ≤ n) (h3 : L < 48 → ¬ (b % 2 ^ (L + 1) = 0 ∧ 2 ^ (L + 1) ≤ n)) : lv b n = L := by
  rcases Nat.lt_trichotomy (lv b n) L with h | h | h
  · exact absurd ⟨h1, h2⟩ (lv_max b n h hL)
  · exact h
  · have := lv_le b n
    exact absurd ⟨mod_pow_le (lv_dvd b n) h, Nat.le_trans (Nat.pow_le_pow_right (by decide) h) (lv_pow b hn)⟩ (h3 (by omega))
def partsP (b e : Nat) : List (Nat × Nat) :=
  if h : b < e then (lv b (e - b), b / 2 ^ lv b (e - b)) :: partsP (b + 2 ^ lv b (e - b)) e else []
termination_by e - b
decreasing_by
  have := Nat.pow_pos (n := lv b (e - b)) (show 0 < 2 by decide)
  omega
theorem partsP_nil {b e : Nat} (h : ¬ b < e) : partsP b e = [] := by rw [partsP, dif_neg h]
theorem partsP_cons {b e : Nat} (h : b < e) : partsP b e = (lv b (e - b), b / 2 ^ lv b (e - b)) :: partsP (b + 2 ^ lv b (e - b)) e := by rw [partsP, dif_pos h]
/-- What is told of a span's parts, from at on; f: they have fallen; p: the level of the part before. -/
def Bes (e : Nat) : Nat → Bool → Option Nat → List (Nat × Nat) → Prop
  | at_, f, p, [] => at_ = e
  | at_, f, p, x :: r => (x.1 ≤ 48 ∧ x.2 * 2 ^ x.1 = at_ ∧ at_ + 2 ^ x.1 ≤ e ∧ (∀ q, p = some q → (q < x.1 → f = false) ∧ (x.1 = q → f = false ∧ x.2 % 2 = 0))) ∧
      Bes e (at_ + 2 ^ x.1) (match p with | none => f | some q => f || decide (x.1 ≤ q)) (some x.1) r
theorem two_pow_succ_mod {b L : Nat} (h : b % 2 ^ L = 0) (h2 : b % 2 ^ (L + 1) ≠ 0) : (b + 2 ^ L) % 2 ^ (L + 1) = 0 := by
  obtain ⟨q, rfl⟩ := Nat.dvd_of_mod_eq_zero h
  have h3 : q % 2 = 1 := by
    rcases Nat.mod_two_eq_zero_or_one q with h3 | h3
    · obtain ⟨t, rfl⟩ := Nat.dvd_of_mod_eq_zero h3
      exfalso; apply h2; rw [Nat.pow_succ, ← Nat.mul_assoc]; exact Nat.mul_mod_right _ _
    · exact h3
  have h4 : 2 ^ L * q + 2 ^ L = 2 ^ (L + 1) * (q / 2 + 1) := by
    rw [Nat.pow_succ]
    have : q = 2 * (q / 2) + 1 := by omega
    generalize hq : q / 2 = t at this ⊢
    subst this
    rw [Nat.mul_assoc, show 2 * (t + 1) = 2 * t + 1 + 1 from by omega, Nat.mul_add (2 ^ L) (2 * t + 1) 1]
    omega
  rw [h4]; exact Nat.mul_mod_right _ _
theorem even_of {b L : Nat} (h : b % 2 ^ (L + 1) = 0) : b / 2 ^ L % 2 = 0 := by
  obtain ⟨t, rfl⟩ := Nat.dvd_of_mod_eq_zero h
  rw [Nat.pow_succ, Nat.mul_assoc, Nat.mul_div_cancel_left _ (Nat.pow_pos (by decide))]
  omega
theorem add_pow_mod {b L : Nat} (h : b % 2 ^ L = 0) : (b + 2 ^ L) % 2 ^ L = 0 := by rw [Nat.add_mod_right]; exact h
/-- How it goes on behind a part of level p that ends at at_, c parts being told. -/
theorem bes_on {e : Nat} (he : e ≤ 2 ^ 48) : ∀ (n at_ : Nat) (f : Bool) (p c : Nat), e - at_ ≤ n → at_ ≤ e → p ≤ 48 → 2 ^ p ≤ at_ → at_ % 2 ^ p = 0 → (e - at_ < 2 ^ p ∨ f = false ∧ at_ % 2 ^ (p + 1) = 0) → (f = false → c ≤ p + 1) → (f = true → c + p ≤ 96) →
    Bes e at_ f (some p) (partsP at_ e) ∧ c + (partsP at_ e).length ≤ 96 := by
  intro n
  induction n with
  | zero =>
    intro at_ f p c hn hle hp hpa hmod hor hc1 hc2
    rw [partsP_nil (by omega)]
    refine ⟨show at_ = e by omega, ?_⟩
    cases f with
    | false => have := hc1 rfl; simp; omega
    | true => have := hc2 rfl; simp; omega
  | succ n ih =>
    intro at_ f p c hn hle hp hpa hmod hor hc1 hc2
    by_cases hlt : at_ < e
    · rw [partsP_cons hlt]
      have hp48 : p < 48 := by
        rcases Nat.lt_or_ge p 48 with h | h
        · exact h
        · have : 2 ^ 48 ≤ 2 ^ p := Nat.pow_le_pow_right (by decide) h
          omega
      have l1 := lv_le at_ (e - at_)
      have l2 := lv_dvd at_ (e - at_)
      have l3 := lv_pow at_ (n := e - at_) (by omega)
      have l4 := fun j => lv_max at_ (e - at_) (j := j)
      obtain ⟨L, hL⟩ : ∃ L, lv at_ (e - at_) = L := ⟨_, rfl⟩
      rw [hL] at l1 l2 l3 l4 ⊢
      have hpos : 0 < 2 ^ L := Nat.pow_pos (by decide)
      have hdm : at_ / 2 ^ L * 2 ^ L = at_ := Nat.div_mul_cancel (Nat.dvd_of_mod_eq_zero l2)
      have hL48 : L < 48 := by
        rcases Nat.lt_or_ge L 48 with h | h
        · exact h
        · have : 2 ^ 48 ≤ 2 ^ L := Nat.pow_le_pow_right (by decide) h
          have : 0 < 2 ^ p := Nat.pow_pos (by decide)
          omega
      have hs : 2 ^ (L + 1) = 2 * 2 ^ L := by rw [Nat.pow_succ, Nat.mul_comm]
      have hbelow : at_ % 2 ^ (L + 1) = 0 → e - (at_ + 2 ^ L) < 2 ^ L := fun h => by
        have := l4 (L + 1) (by omega) (by omega)
        have : ¬ 2 ^ (L + 1) ≤ e - at_ := fun h3 => this ⟨h, h3⟩
        omega
      have key : ∀ f' : Bool, f' = (f || decide (L ≤ p)) → (p < L → f = false) → (L = p → f = false ∧ at_ / 2 ^ L % 2 = 0) → (f' = false → c + 1 ≤ L + 1) → (f' = true → c + 1 + L ≤ 96) → (e - (at_ + 2 ^ L) < 2 ^ L ∨ f' = false ∧ (at_ + 2 ^ L) % 2 ^ (L + 1) = 0) →
          Bes e at_ f (some p) ((L, at_ / 2 ^ L) :: partsP (at_ + 2 ^ L) e) ∧ c + ((L, at_ / 2 ^ L) :: partsP (at_ + 2 ^ L) e).length ≤ 96 := by
        intro f' hf' k1 k2 k3 k4 k5
        obtain ⟨r1, r2⟩ := ih (at_ + 2 ^ L) f' L (c + 1) (by omega) (by omega) (by omega) (by omega) (add_pow_mod l2) k5 k3 k4
        refine ⟨⟨⟨l1, hdm, by show at_ + 2 ^ L ≤ e; omega, fun q hq => ?_⟩, by rw [hf'] at r1; exact r1⟩, by simp only [List.length_cons]; omega⟩
        injection hq with hq
        subst hq
        exact ⟨k1, k2⟩
      rcases hor with h | ⟨rfl, h⟩
      · have hLp : L < p := by
          rcases Nat.lt_or_ge L p with h' | h'
          · exact h'
          · have : 2 ^ p ≤ 2 ^ L := Nat.pow_le_pow_right (by decide) h'
            omega
        refine key true (by simp; right; omega) (fun h => by omega) (fun h => by omega) (fun h => by cases h) (fun _ => ?_) (.inl (hbelow (mod_pow_le hmod hLp)))
        cases f with
        | false => have := hc1 rfl; omega
        | true => have := hc2 rfl; omega
      · have hc := hc1 rfl
        rcases Nat.lt_trichotomy p L with h' | h' | h'
        · refine key false (by simp; omega) (fun _ => rfl) (fun h => by omega) (fun _ => by omega) (fun h => by cases h) ?_
          by_cases hm : at_ % 2 ^ (L + 1) = 0
          · exact .inl (hbelow hm)
          · exact .inr ⟨rfl, two_pow_succ_mod l2 hm⟩
        · subst h'
          exact key true (by simp) (fun h => by omega) (fun _ => ⟨rfl, even_of h⟩) (fun h => by cases h) (fun _ => by omega) (.inl (hbelow h))
        · exact key true (by simp; omega) (fun h => by omega) (fun h => by omega) (fun h => by cases h) (fun _ => by omega) (.inl (hbelow (mod_pow_le hmod h')))
    · rw [partsP_nil hlt]
      refine ⟨show at_ = e by omega, ?_⟩
      cases f with
      | false => have := hc1 rfl; simp; omega
      | true => have := hc2 rfl; simp; omega
theorem bes_all {b e : Nat} (hb : b ≤ e) (he : e ≤ 2 ^ 48) : Bes e b false none (partsP b e) ∧ (partsP b e).length ≤ 96 := by
  by_cases hlt : b < e
  · rw [partsP_cons hlt]
    have l1 := lv_le b (e - b)
    have l2 := lv_dvd b (e - b)
    have l3 := lv_pow b (n := e - b) (by omega)
    have l4 := fun j => lv_max b (e - b) (j := j)
    obtain ⟨L, hL⟩ : ∃ L, lv b (e - b) = L := ⟨_, rfl⟩
    rw [hL] at l1 l2 l3 l4 ⊢
    have hs : 2 ^ (L + 1) = 2 * 2 ^ L := by rw [Nat.pow_succ, Nat.mul_comm]
    have hpos : 0 < 2 ^ L := Nat.pow_pos (by decide)
    have hdm : b / 2 ^ L * 2 ^ L = b := Nat.div_mul_cancel (Nat.dvd_of_mod_eq_zero l2)
    have hor : e - (b + 2 ^ L) < 2 ^ L ∨ false = false ∧ (b + 2 ^ L) % 2 ^ (L + 1) = 0 := by
      by_cases h48 : L = 48
      · subst h48; left; omega
      · by_cases hm : b % 2 ^ (L + 1) = 0
        · left
          have := l4 (L + 1) (by omega) (by omega)
          have : ¬ 2 ^ (L + 1) ≤ e - b := fun h3 => this ⟨hm, h3⟩
          omega
        · exact .inr ⟨rfl, two_pow_succ_mod l2 hm⟩
    obtain ⟨r1, r2⟩ := bes_on he (e - (b + 2 ^ L)) (b + 2 ^ L) false L 1 (Nat.le_refl _) (by omega) l1 (by omega) (add_pow_mod l2) hor (fun _ => by omega) (fun h => by cases h)
    refine ⟨⟨⟨l1, hdm, by show b + 2 ^ L ≤ e; omega, fun q hq => by cases hq⟩, r1⟩, by simp only [List.length_cons]; omega⟩
  · rw [partsP_nil hlt]
    exact ⟨show b = e by omega, by simp⟩
/-- The spans of an inclusion proof's digests. -/
def spansP (i b n : Nat) : List (Nat × Nat) :=
  if h : n < 2 then [] else if i < b + hf n then spansP i b (hf n) ++ [(b + hf n, b + n)] else spansP i (b + hf n) (n - hf n) ++ [(b, b + hf n)]
termination_by n
decreasing_by
  · exact hf_lt (by omega)
  · have := hf_pos n; omega
theorem spansP_one {i b n : Nat} (h : n < 2) : spansP i b n = [] := by rw [spansP, dif_pos h]
theorem spansP_lt {i b n : Nat} (h : 2 ≤ n) (hi : i < b + hf n) : spansP i b n = spansP i b (hf n) ++ [(b + hf n, b + n)] := by rw [spansP, dif_neg (by omega), if_pos hi]
theorem spansP_ge {i b n : Nat} (h : 2 ≤ n) (hi : ¬ i < b + hf n) : spansP i b n = spansP i (b + hf n) (n - hf n) ++ [(b, b + hf n)] := by rw [spansP, dif_neg (by omega), if_neg hi]
theorem spansP_len : ∀ (j n i b : Nat), n ≤ 2 ^ j → (spansP i b n).length ≤ j := by
  intro j
  induction j with
  | zero => intro n i b hn; rw [spansP_one (by simp at hn; omega)]; exact Nat.le_refl _
  | succ j ih =>
    intro n i b hn
    rcases Nat.lt_or_ge n 2 with h | h
    · rw [spansP_one h]; exact Nat.zero_le _
    · have h1 := hf_le h hn
      have h2 := hf_ge h
      by_cases hi : i < b + hf n
      · rw [spansP_lt h hi, List.length_append]; have := ih (hf n) i b h1; simp; omega
      · rw [spansP_ge h hi, List.length_append]; have := ih (n - hf n) i (b + hf n) (by omega); simp; omega
/-- From the span lo..hi by neighbours to the span a..z. -/
def Cov (a z : Nat) : Nat → Nat → List (Nat × Nat) → Prop
  | lo, hi, [] => lo = a ∧ hi = z
  | lo, hi, x :: r => (x.1 < x.2 ∧ (x.2 = lo ∨ x.1 = hi)) ∧ Cov a z (min lo x.1) (max hi x.2) r
theorem cov_snoc {a z a' z' x y : Nat} (h1 : x < y) (h2 : y = a ∨ x = z) (ha : a' = min a x) (hz : z' = max z y) : ∀ (l : List (Nat × Nat)) (lo hi : Nat), Cov a z lo hi l → Cov a' z' lo hi (l ++ [(x, y)])
  | [], lo, hi, h => by
    obtain ⟨rfl, rfl⟩ := h
    exact ⟨⟨h1, h2⟩, ha.symm, hz.symm⟩
  | _ :: r, lo, hi, h => ⟨h.1, cov_snoc h1 h2 ha hz r _ _ h.2⟩
theorem cov_spans : ∀ (n b i : Nat), b ≤ i → i < b + n → Cov b (b + n) i (i + 1) (spansP i b n) := by
  intro n
  induction n using Nat.strongRecOn with
  | ind n ih =>
    intro b i h1 h2
    rcases Nat.lt_or_ge n 2 with h | h
    · rw [spansP_one h]; exact ⟨by omega, by omega⟩
    · have k1 := hf_pos n
      have k2 := hf_lt h
      by_cases hi : i < b + hf n
      · rw [spansP_lt h hi]
        exact cov_snoc (by omega) (by omega) (by omega) (by omega) _ _ _ (ih (hf n) k2 b i h1 hi)
      · rw [spansP_ge h hi]
        have := ih (n - hf n) (by omega) (b + hf n) i (by omega) (by omega)
        rw [show b + hf n + (n - hf n) = b + n from by omega] at this
        exact cov_snoc (by omega) (by omega) (by omega) (by omega) _ _ _ this
/-- The spans of a consistency proof's digests. -/
def stepsP (m b n : Nat) (whole : Bool) : List (Nat × Nat) :=
  if h : n < 2 ∨ m = n then (if whole then [] else [(b, b + n)]) else if m ≤ hf n then stepsP m b (hf n) whole ++ [(b + hf n, b + n)] else stepsP (m - hf n) (b + hf n) (n - hf n) false ++ [(b, b + hf n)]
termination_by n
decreasing_by
  · exact hf_lt (by omega)
  · have := hf_pos n; omega
theorem stepsP_end {m b n : Nat} {w : Bool} (h : n < 2 ∨ m = n) : stepsP m b n w = if w then [] else [(b, b + n)] := by rw [stepsP, dif_pos h]
theorem stepsP_le {m b n : Nat} {w : Bool} (h : 2 ≤ n) (hm : m ≠ n) (hi : m ≤ hf n) : stepsP m b n w = stepsP m b (hf n) w ++ [(b + hf n, b + n)] := by rw [stepsP, dif_neg (by omega), if_pos hi]
theorem stepsP_gt {m b n : Nat} {w : Bool} (h : 2 ≤ n) (hm : m ≠ n) (hi : ¬ m ≤ hf n) : stepsP m b n w = stepsP (m - hf n) (b + hf n) (n - hf n) false ++ [(b, b + hf n)] := by rw [stepsP, dif_neg (by omega), if_neg hi]
theorem stepsP_len : ∀ (j n m b : Nat) (w : Bool), n ≤ 2 ^ j → (stepsP m b n w).length ≤ j + 1 := by
  intro j
  induction j with
  | zero => intro n m b w hn; rw [stepsP_end (.inl (by simp at hn; omega))]; split <;> simp
  | succ j ih =>
    intro n m b w hn
    by_cases h : n < 2 ∨ m = n
    · rw [stepsP_end h]; split <;> simp
    · have h0 : 2 ≤ n := by omega
      have h1 := hf_le h0 hn
      have h2 := hf_ge h0
      by_cases hi : m ≤ hf n
      · rw [stepsP_le h0 (by omega) hi, List.length_append]; have := ih (hf n) m b w h1; simp; omega
      · rw [stepsP_gt h0 (by omega) hi, List.length_append]; have := ih (n - hf n) (m - hf n) (b + hf n) false (by omega); simp; omega
theorem steps_part : ∀ (n b m : Nat), 1 ≤ m → m ≤ n → ∃ x r, stepsP m b n false = (x, b + m) :: r ∧ b ≤ x ∧ x < b + m ∧ Cov b (b + n) x (b + m) r := by
  intro n
  induction n using Nat.strongRecOn with
  | ind n ih =>
    intro b m h1 h2
    by_cases h : n < 2 ∨ m = n
    · have : m = n := by omega
      subst this
      rw [stepsP_end h]
      exact ⟨b, [], rfl, by omega, by omega, rfl, rfl⟩
    · have h0 : 2 ≤ n := by omega
      have k1 := hf_pos n
      have k2 := hf_lt h0
      by_cases hi : m ≤ hf n
      · rw [stepsP_le h0 (by omega) hi]
        obtain ⟨x, r, hr, hx, hx2, hc⟩ := ih (hf n) k2 b m h1 hi
        exact ⟨x, r ++ [(b + hf n, b + n)], by rw [hr]; rfl, hx, hx2, cov_snoc (by omega) (by omega) (by omega) (by omega) _ _ _ hc⟩
      · rw [stepsP_gt h0 (by omega) hi]
        obtain ⟨x, r, hr, hx, hx2, hc⟩ := ih (n - hf n) (by omega) (b + hf n) (m - hf n) (by omega) (by omega)
        rw [show b + hf n + (m - hf n) = b + m from by omega] at hr hx2 hc
        rw [show b + hf n + (n - hf n) = b + n from by omega] at hc
        exact ⟨x, r ++ [(b, b + hf n)], by rw [hr]; rfl, by omega, hx2, cov_snoc (by omega) (by omega) (by omega) (by omega) _ _ _ hc⟩
theorem hf_is_pow (n : Nat) : ∃ j, hf n = 2 ^ j := ⟨_, rfl⟩
theorem steps_whole : ∀ (n m : Nat), 1 ≤ m → m < n →
    (∃ j, m = 2 ^ j ∧ Cov 0 n 0 m (stepsP m 0 n true)) ∨ (∃ j x r, 2 ^ j < m ∧ m < 2 ^ (j + 1) ∧ stepsP m 0 n true = (x, m) :: r ∧ x < m ∧ Cov 0 n x m r) := by
  intro n
  induction n using Nat.strongRecOn with
  | ind n ih =>
    intro m h1 h2
    have h0 : 2 ≤ n := by omega
    have k1 := hf_pos n
    have k2 := hf_lt h0
    have k3 := hf_ge h0
    by_cases hi : m ≤ hf n
    · rw [stepsP_le h0 (by omega) hi, Nat.zero_add, Nat.zero_add]
      by_cases he : m = hf n
      · obtain ⟨j, hj⟩ := hf_is_pow n
        refine .inl ⟨j, by omega, ?_⟩
        rw [stepsP_end (.inr he)]
        exact ⟨⟨k2, .inr he.symm⟩, by show min 0 _ = 0; omega, by show max m n = n; omega⟩
      · rcases ih (hf n) k2 m h1 (by omega) with ⟨j, hj, hc⟩ | ⟨j, x, r, h3, h4, hr, hx, hc⟩
        · exact .inl ⟨j, hj, cov_snoc (by omega) (by omega) (by omega) (by omega) _ _ _ hc⟩
        · exact .inr ⟨j, x, r ++ [(hf n, n)], h3, h4, by rw [hr]; rfl, hx, cov_snoc (by omega) (by omega) (by omega) (by omega) _ _ _ hc⟩
    · rw [stepsP_gt h0 (by omega) hi, Nat.zero_add]
      obtain ⟨x, r, hr, hx, hx2, hc⟩ := steps_part (n - hf n) (hf n) (m - hf n) (by omega) (by omega)
      rw [show hf n + (m - hf n) = m from by omega] at hr hx2 hc
      rw [show hf n + (n - hf n) = n from by omega] at hc
      obtain ⟨j, hj⟩ := hf_is_pow n
      refine .inr ⟨j, x, r ++ [(0, hf n)], by omega, by rw [Nat.pow_succ]; omega, by rw [hr]; rfl, hx2, cov_snoc (by omega) (by omega) (by omega) (by omega) _ _ _ hc⟩
theorem and_pow (j : Nat) : (2 ^ j) &&& (2 ^ j - 1) = 0 := by rw [Nat.and_two_pow_sub_one_eq_mod, Nat.mod_self]
theorem and_not_pow {m j : Nat} (h1 : 2 ^ j < m) (h2 : m < 2 ^ (j + 1)) : m &&& (m - 1) ≠ 0 := by
  intro h
  have t1 : m.testBit j = true := Nat.testBit_of_two_pow_le_and_two_pow_add_one_gt (Nat.le_of_lt h1) h2
  have t2 : (m - 1).testBit j = true := Nat.testBit_of_two_pow_le_and_two_pow_add_one_gt (by omega) (by omega)
  have := congrArg (fun x => x.testBit j) h
  simp [t1, t2] at this
end Cop
namespace Cop
set_option linter.unusedVariables false
/-- A perfect subtree: its level, its index, its digest. -/
abbrev Prt := Nat × Nat × List UInt8
def nds (s : List Prt) : List (Nat × Nat) := s.map fun p => (p.1, p.2.1)
/-- Left and right half of one. -/
def Sib (a b : Nat × Nat) : Prop := a.1 = b.1 ∧ a.2 + 1 = b.2 ∧ b.2 % 2 = 1
instance (a b : Nat × Nat) : Decidable (Sib a b) := by unfold Sib; infer_instance
def Fw : Nat → List (Nat × Nat) → Nat → Prop
  | b, [], e => b = e
  | b, p :: s, e => b = p.2 * 2 ^ p.1 ∧ Fw ((p.2 + 1) * 2 ^ p.1) s e
def NoSib : List (Nat × Nat) → Prop
  | [] => True
  | [_] => True
  | x :: y :: r => ¬ Sib x y ∧ NoSib (y :: r)
theorem fw_snoc : ∀ (xs : List (Nat × Nat)) (p : Nat × Nat) (b e : Nat), Fw b (xs ++ [p]) e ↔ Fw b xs (p.2 * 2 ^ p.1) ∧ (p.2 + 1) * 2 ^ p.1 = e
  | [], p, b, e => Iff.rfl
  | x :: xs, p, b, e => by
    have ih := fw_snoc xs p ((x.2 + 1) * 2 ^ x.1) e
    exact ⟨fun ⟨a, b⟩ => ⟨⟨a, (ih.1 b).1⟩, (ih.1 b).2⟩, fun ⟨⟨a, b⟩, c⟩ => ⟨a, ih.2 ⟨b, c⟩⟩⟩
theorem fw_le : ∀ (xs : List (Nat × Nat)) (b e : Nat), Fw b xs e → b ≤ e
  | [], b, e, h => Nat.le_of_eq h
  | x :: xs, b, e, h => by
    have := fw_le xs _ _ h.2
    have h1 := h.1
    rw [Nat.add_mul] at this
    omega
theorem noSib_snoc : ∀ (xs : List (Nat × Nat)) (x y : Nat × Nat), NoSib (xs ++ [x] ++ [y]) ↔ NoSib (xs ++ [x]) ∧ ¬ Sib x y
  | [], x, y => ⟨fun h => ⟨trivial, h.1⟩, fun h => ⟨h.2, trivial⟩⟩
  | [z], x, y => ⟨fun h => ⟨⟨h.1, trivial⟩, h.2.1⟩, fun h => ⟨h.1.1, h.2, trivial⟩⟩
  | z :: z2 :: xs, x, y => by
    have ih := noSib_snoc (z2 :: xs) x y
    show (¬ Sib z z2 ∧ NoSib ((z2 :: xs) ++ [x] ++ [y])) ↔ ((¬ Sib z z2 ∧ NoSib ((z2 :: xs) ++ [x])) ∧ _)
    rw [ih]
    exact ⟨fun ⟨a, b, c⟩ => ⟨⟨a, b⟩, c⟩, fun ⟨⟨a, b⟩, c⟩ => ⟨a, b, c⟩⟩
theorem noSib_init : ∀ (xs : List (Nat × Nat)) (x : Nat × Nat), NoSib (xs ++ [x]) → NoSib xs
  | [], x, h => trivial
  | [z], x, h => trivial
  | z :: z2 :: xs, x, h => ⟨h.1, noSib_init (z2 :: xs) x h.2⟩
def Canon (b e : Nat) (xs : List (Nat × Nat)) : Prop := Fw b xs e ∧ NoSib xs
theorem Canon.tail {b e : Nat} {p : Nat × Nat} {r : List (Nat × Nat)} (h : Canon b e (p :: r)) : Canon ((p.2 + 1) * 2 ^ p.1) e r := ⟨h.1.2, by
  cases r with
  | nil => trivial
  | cons q r => exact h.2.2⟩
theorem canon_head : ∀ (K b e : Nat) (p : Nat × Nat) (r : List (Nat × Nat)), Canon b e (p :: r) → b % 2 ^ K = 0 → b + 2 ^ K ≤ e → K ≤ p.1
  | 0, _, _, _, _, _, _, _ => Nat.zero_le _
  | K + 1, b, e, p, r, h, h1, h2 => by
    have hpow : 2 ^ (K + 1) = 2 * 2 ^ K := by rw [Nat.pow_succ, Nat.mul_comm]
    have hK := canon_head K b e p r h (mod_pow_le h1 (by omega)) (by omega)
    rcases Nat.lt_or_ge K p.1 with hlt | hge
    · exact hlt
    · have hKp : p.1 = K := by omega
      exfalso
      have hb := h.1.1
      rw [hKp] at hb
      have hev : p.2 % 2 = 0 := by
        have hd : 2 ^ K * 2 ∣ 2 ^ K * p.2 := by
          rw [Nat.mul_comm (2 ^ K) p.2, ← hb, Nat.mul_comm, ← hpow]
          exact Nat.dvd_of_mod_eq_zero h1
        exact Nat.mod_eq_zero_of_dvd (Nat.dvd_of_mul_dvd_mul_left (Nat.two_pow_pos K) hd)
      have ht := h.tail
      rw [hKp] at ht
      have hnext : (p.2 + 1) * 2 ^ K = b + 2 ^ K := by rw [Nat.add_mul, Nat.one_mul, ← hb]
      rw [hnext] at ht
      cases r with
      | nil =>
        have : b + 2 ^ K = e := ht.1
        have := Nat.two_pow_pos K
        omega
      | cons q r =>
        have hm : (b + 2 ^ K) % 2 ^ K = 0 := by rw [Nat.add_mod_right]; exact mod_pow_le h1 (by omega)
        have hq := canon_head K _ e q r ht hm (by omega)
        have hq1 : b + 2 ^ K = q.2 * 2 ^ q.1 := ht.1.1
        have hqK : q.1 = K := by
          rcases Nat.lt_or_ge K q.1 with h3 | h3
          · exfalso
            have h4 : (b + 2 ^ K) % 2 ^ (K + 1) = 0 := mod_pow_le (j := q.1) (by rw [hq1]; exact Nat.mul_mod_left _ _) h3
            rw [Nat.add_mod, h1, Nat.zero_add, Nat.mod_mod, Nat.mod_eq_of_lt (by rw [hpow]; have := Nat.two_pow_pos K; omega)] at h4
            have := Nat.two_pow_pos K
            omega
          · omega
        rw [hqK, ← hnext] at hq1
        have hq2 : p.2 + 1 = q.2 := Nat.eq_of_mul_eq_mul_right (Nat.two_pow_pos K) hq1
        exact h.2.1 ⟨by rw [hKp, hqK], hq2, by omega⟩
theorem canon_uniq : ∀ (xs : List (Nat × Nat)) (b e : Nat), e ≤ 2 ^ 48 → Canon b e xs → xs = partsP b e
  | [], b, e, he, h => by rw [partsP_nil (by have : b = e := h.1; omega)]
  | p :: r, b, e, he, h => by
    have hb : b = p.2 * 2 ^ p.1 := h.1.1
    have hle := fw_le _ _ _ h.1.2
    have hn : (p.2 + 1) * 2 ^ p.1 = b + 2 ^ p.1 := by rw [Nat.add_mul, Nat.one_mul, ← hb]
    have hpos := Nat.two_pow_pos p.1
    have hp48 : p.1 ≤ 48 := by
      rcases Nat.lt_or_ge 48 p.1 with h1 | h1
      · have : 2 ^ 49 ≤ 2 ^ p.1 := Nat.pow_le_pow_right (by decide) h1
        omega
      · exact h1
    have hlv : lv b (e - b) = p.1 := lv_eq (by omega) hp48 (by rw [hb]; exact Nat.mul_mod_left _ _) (by omega) (fun _ h3 => by
      have := canon_head (p.1 + 1) b e p r h h3.1 (by omega)
      omega)
    rw [partsP_cons (by omega), hlv]
    have hd : b / 2 ^ p.1 = p.2 := by rw [hb]; exact Nat.mul_div_cancel _ hpos
    rw [hd, canon_uniq r _ e he h.tail, hn]
theorem fw_parts {e : Nat} : ∀ (n b : Nat), e - b ≤ n → b ≤ e → Fw b (partsP b e) e
  | n, b, hn, hb => by
    by_cases hlt : b < e
    · rw [partsP_cons hlt]
      have h1 := lv_dvd b (e - b)
      have h2 := lv_pow b (n := e - b) (by omega)
      have hpos := Nat.two_pow_pos (lv b (e - b))
      have hm : b = b / 2 ^ lv b (e - b) * 2 ^ lv b (e - b) := (Nat.div_mul_cancel (Nat.dvd_of_mod_eq_zero h1)).symm
      refine ⟨hm, ?_⟩
      show Fw ((b / 2 ^ lv b (e - b) + 1) * 2 ^ lv b (e - b)) _ _
      rw [Nat.add_mul, Nat.one_mul, ← hm]
      cases n with
      | zero => omega
      | succ n => exact fw_parts n _ (by omega) (by omega)
    · rw [partsP_nil hlt]
      show b = e
      omega
theorem noSib_parts {e : Nat} (he : e ≤ 2 ^ 48) : ∀ (n b : Nat), e - b ≤ n → b ≤ e → NoSib (partsP b e)
  | n, b, hn, hb => by
    by_cases hlt : b < e
    · have h1 := lv_dvd b (e - b)
      have h2 := lv_pow b (n := e - b) (by omega)
      have hpos := Nat.two_pow_pos (lv b (e - b))
      have hmx := fun j => lv_max b (e - b) (j := j)
      have hl48 := lv_le b (e - b)
      rw [partsP_cons hlt]
      generalize lv b (e - b) = L at *
      by_cases hlt2 : b + 2 ^ L < e
      · cases n with
        | zero => omega
        | succ n =>
          have ih := noSib_parts he n (b + 2 ^ L) (by omega) (by omega)
          have h4 := lv_pow (b + 2 ^ L) (n := e - (b + 2 ^ L)) (by omega)
          rw [partsP_cons hlt2] at ih ⊢
          refine ⟨fun hs => ?_, ih⟩
          obtain ⟨s1, s2, s3⟩ := hs
          dsimp only at s1 s2 s3
          rw [← s1] at s2 s3 h4
          have hpw : 2 ^ (L + 1) = 2 * 2 ^ L := by rw [Nat.pow_succ, Nat.mul_comm]
          refine hmx (L + 1) (by omega) (by
            rcases Nat.lt_or_ge L 48 with h | h
            · omega
            · have : L = 48 := by omega
              subst this
              omega) ⟨?_, by omega⟩
          have hm : b = b / 2 ^ L * 2 ^ L := (Nat.div_mul_cancel (Nat.dvd_of_mod_eq_zero h1)).symm
          obtain ⟨k, hk⟩ : ∃ k, b / 2 ^ L = 2 * k := ⟨b / 2 ^ L / 2, by omega⟩
          rw [hm, hk, hpw, Nat.mul_right_comm]
          exact Nat.mod_eq_zero_of_dvd ⟨k, rfl⟩
      · rw [partsP_nil hlt2]
        trivial
    · rw [partsP_nil hlt]
      trivial
theorem canon_parts {b e : Nat} (hb : b ≤ e) (he : e ≤ 2 ^ 48) : Canon b e (partsP b e) := ⟨fw_parts _ b (Nat.le_refl _) hb, noSib_parts he _ b (Nat.le_refl _) hb⟩
section
variable (nd : List UInt8 → List UInt8 → List UInt8)
/-- A subtree is put behind. -/
def carry : List Prt → Prt → List Prt
  | [], p => [p]
  | q :: s, p => if Sib (q.1, q.2.1) (p.1, p.2.1) then carry s (p.1 + 1, p.2.1 / 2, nd q.2.2 p.2.2) else p :: q :: s
theorem canon_carry (b : Nat) : ∀ (s : List Prt) (p : Prt), Canon b (p.2.1 * 2 ^ p.1) (nds s).reverse → Canon b ((p.2.1 + 1) * 2 ^ p.1) (nds (carry nd s p)).reverse
  | [], p, h => by
    show Canon b _ [(p.1, p.2.1)]
    exact ⟨⟨h.1, rfl⟩, trivial⟩
  | q :: s, p, h => by
    have hr : (nds (q :: s)).reverse = (nds s).reverse ++ [(q.1, q.2.1)] := by simp [nds]
    rw [hr] at h
    have hf := (fw_snoc _ _ _ _).1 h.1
    unfold carry
    split
    · rename_i hs
      obtain ⟨s1, s2, s3⟩ := hs
      dsimp only at s1 s2 s3 hf
      have e1 : p.2.1 / 2 * 2 ^ (p.1 + 1) = q.2.1 * 2 ^ q.1 := by
        rw [s1, Nat.pow_succ, Nat.mul_comm (2 ^ p.1) 2, ← Nat.mul_assoc, show p.2.1 / 2 * 2 = q.2.1 by omega]
      have e2 : (p.2.1 / 2 + 1) * 2 ^ (p.1 + 1) = (p.2.1 + 1) * 2 ^ p.1 := by
        rw [Nat.pow_succ, Nat.mul_comm (2 ^ p.1) 2, ← Nat.mul_assoc, show (p.2.1 / 2 + 1) * 2 = p.2.1 + 1 by omega]
      have := canon_carry b s (p.1 + 1, p.2.1 / 2, nd q.2.2 p.2.2) (by
        show Canon b (p.2.1 / 2 * 2 ^ (p.1 + 1)) _
        rw [e1]
        exact ⟨hf.1, noSib_init _ _ h.2⟩)
      have e3 : Canon b ((p.2.1 / 2 + 1) * 2 ^ (p.1 + 1)) (nds (carry nd s (p.1 + 1, p.2.1 / 2, nd q.2.2 p.2.2))).reverse := this
      rw [e2] at e3
      exact e3
    · rename_i hs
      have hr2 : (nds (p :: q :: s)).reverse = (nds s).reverse ++ [(q.1, q.2.1)] ++ [(p.1, p.2.1)] := by simp [nds]
      rw [hr2]
      exact ⟨(fw_snoc _ _ _ _).2 ⟨h.1, rfl⟩, (noSib_snoc _ _ _).2 ⟨h.2, hs⟩⟩
theorem carry_nds {b e l : Nat} {s : List Prt} (d : List UInt8) (hs : nds s = (partsP b e).reverse) (hb : b ≤ e) (hl : e % 2 ^ l = 0) (he : e + 2 ^ l ≤ 2 ^ 48) : nds (carry nd s (l, e / 2 ^ l, d)) = (partsP b (e + 2 ^ l)).reverse := by
  have hm : e / 2 ^ l * 2 ^ l = e := Nat.div_mul_cancel (Nat.dvd_of_mod_eq_zero hl)
  have h1 := canon_carry nd b s (l, e / 2 ^ l, d) (by
    show Canon b (e / 2 ^ l * 2 ^ l) _
    rw [hm, hs, List.reverse_reverse]
    exact canon_parts hb (by omega))
  have h2 : Canon b ((e / 2 ^ l + 1) * 2 ^ l) (nds (carry nd s (l, e / 2 ^ l, d))).reverse := h1
  rw [Nat.add_mul, Nat.one_mul, hm] at h2
  have h3 := canon_uniq _ b _ he h2
  rw [← h3, List.reverse_reverse]
theorem nds_len {b e : Nat} {s : List Prt} (hs : nds s = (partsP b e).reverse) (hb : b ≤ e) (he : e ≤ 2 ^ 48) : s.length ≤ 96 := by
  have h1 := congrArg List.length hs
  rw [List.length_reverse] at h1
  have h2 := (bes_all hb he).2
  have h3 : (nds s).length = s.length := by simp [nds]
  omega
/-- All digests have 32 bytes. -/
def All32 (s : List Prt) : Prop := ∀ x ∈ s, x.2.2.length = 32
theorem All32.tail {p : Prt} {s : List Prt} (h : All32 (p :: s)) : All32 s := fun x hx => h x (List.mem_cons_of_mem _ hx)
theorem All32.head {p : Prt} {s : List Prt} (h : All32 (p :: s)) : p.2.2.length = 32 := h p List.mem_cons_self
theorem carry_32 (hnd : ∀ a b, (nd a b).length = 32) : ∀ (s : List Prt) (p : Prt), All32 s → p.2.2.length = 32 → All32 (carry nd s p)
  | [], p, _, h => fun x hx => by rw [carry, List.mem_singleton] at hx; subst hx; exact h
  | q :: s, p, h, h2 => by
    unfold carry
    split
    · exact carry_32 hnd s _ h.tail (hnd _ _)
    · intro x hx
      rcases List.mem_cons.1 hx with rfl | hx
      · exact h2
      · exact h x hx
/-- The root of what a stack covers. -/
def foldS : List Prt → List UInt8 → List UInt8
  | [], em => em
  | p :: s, _ => s.foldl (fun acc q => nd q.2.2 acc) p.2.2
variable (em : List UInt8)
/-- The digests are roots of the leaves below. -/
def Tells (L : List (List UInt8)) (s : List Prt) : Prop := ∀ x ∈ s, x.2.2 = root nd em ((L.drop (x.2.1 * 2 ^ x.1)).take (2 ^ x.1))
theorem Tells.tail {L : List (List UInt8)} {p : Prt} {s : List Prt} (h : Tells nd em L (p :: s)) : Tells nd em L s := fun x hx => h x (List.mem_cons_of_mem _ hx)
theorem tells_carry (L : List (List UInt8)) : ∀ (s : List Prt) (p : Prt), Tells nd em L s → (p.2.1 + 1) * 2 ^ p.1 ≤ L.length → p.2.2 = root nd em ((L.drop (p.2.1 * 2 ^ p.1)).take (2 ^ p.1)) → Tells nd em L (carry nd s p)
  | [], p, _, _, h => fun x hx => by rw [carry, List.mem_singleton] at hx; subst hx; exact h
  | q :: s, p, h, hle, h2 => by
    unfold carry
    split
    · rename_i hs
      obtain ⟨s1, s2, s3⟩ := hs
      dsimp only at s1 s2 s3
      have e1 : p.2.1 / 2 * 2 ^ (p.1 + 1) = q.2.1 * 2 ^ q.1 := by
        rw [s1, Nat.pow_succ, Nat.mul_comm (2 ^ p.1) 2, ← Nat.mul_assoc, show p.2.1 / 2 * 2 = q.2.1 by omega]
      have e2 : (p.2.1 / 2 + 1) * 2 ^ (p.1 + 1) = (p.2.1 + 1) * 2 ^ p.1 := by
        rw [Nat.pow_succ, Nat.mul_comm (2 ^ p.1) 2, ← Nat.mul_assoc, show (p.2.1 / 2 + 1) * 2 = p.2.1 + 1 by omega]
      refine tells_carry L s (p.1 + 1, p.2.1 / 2, nd q.2.2 p.2.2) h.tail (by show (p.2.1 / 2 + 1) * 2 ^ (p.1 + 1) ≤ _; rw [e2]; exact hle) ?_
      show nd q.2.2 p.2.2 = root nd em ((L.drop (p.2.1 / 2 * 2 ^ (p.1 + 1))).take (2 ^ (p.1 + 1)))
      rw [e1, h2, h q List.mem_cons_self, Nat.pow_succ, Nat.mul_two, List.take_add, List.drop_drop, s1]
      have e3 : q.2.1 * 2 ^ p.1 + 2 ^ p.1 = p.2.1 * 2 ^ p.1 := by rw [← s2, Nat.add_mul, Nat.one_mul]
      rw [e3]
      have hpos := Nat.two_pow_pos p.1
      rw [Nat.add_mul, Nat.one_mul] at hle
      refine (root_join nd em p.1 ?_ ?_ ?_).symm
      · rw [List.length_take, List.length_drop]; omega
      · rw [List.length_take, List.length_drop]; omega
      · rw [List.length_take, List.length_drop]; omega
    · intro x hx
      rcases List.mem_cons.1 hx with rfl | hx
      · exact h2
      · exact h x hx
/-- The fold from the left part on. -/
def foldF : List Prt → List UInt8
  | [] => []
  | [p] => p.2.2
  | p :: q :: r => nd p.2.2 (foldF (q :: r))
theorem foldF_snoc : ∀ (s : List Prt) (p : Prt), foldF nd (s ++ [p]) = s.reverse.foldl (fun acc q => nd q.2.2 acc) p.2.2
  | [], p => rfl
  | [q], p => rfl
  | q :: q2 :: s, p => by
    show nd q.2.2 (foldF nd ((q2 :: s) ++ [p])) = _
    rw [foldF_snoc (q2 :: s) p, List.reverse_cons (a := q), List.foldl_append]
    rfl
theorem foldF_root (L : List (List UInt8)) {e : Nat} (heL : e ≤ L.length) (he : e ≤ 2 ^ 48) : ∀ (s : List Prt) (b K : Nat), nds s = partsP b e → Tells nd em L s → b < e → b % 2 ^ K = 0 → e - b ≤ 2 ^ K → foldF nd s = root nd em ((L.drop b).take (e - b))
  | [], b, K, hs, _, hb, _, _ => by rw [partsP_cons hb] at hs; cases hs
  | p :: s, b, K, hs, ht, hb, hK, hK2 => by
    have h1 := lv_dvd b (e - b)
    have h2 := lv_pow b (n := e - b) (by omega)
    have hl48 := lv_le b (e - b)
    have hmx := fun j => lv_max b (e - b) (j := j)
    rw [partsP_cons hb] at hs
    generalize lv b (e - b) = l at *
    have hs' : (p.1, p.2.1) :: nds s = (l, b / 2 ^ l) :: partsP (b + 2 ^ l) e := hs
    have e1 := congrArg Prod.fst (List.cons.inj hs').1
    have e2 := congrArg Prod.snd (List.cons.inj hs').1
    dsimp only at e1 e2
    have hs2 := (List.cons.inj hs').2
    have hm : b / 2 ^ l * 2 ^ l = b := Nat.div_mul_cancel (Nat.dvd_of_mod_eq_zero h1)
    have hd : p.2.2 = root nd em ((L.drop b).take (2 ^ l)) := by rw [ht p List.mem_cons_self, e1, e2, hm]
    have hpw : 2 ^ (l + 1) = 2 * 2 ^ l := by rw [Nat.pow_succ, Nat.mul_comm]
    have hpos := Nat.two_pow_pos l
    by_cases hlt : b + 2 ^ l < e
    · have hb2 : e - (b + 2 ^ l) ≤ 2 ^ l := by
        rcases Nat.lt_or_ge (2 ^ l) (e - (b + 2 ^ l)) with h3 | h3
        · exfalso
          have hKl : l + 1 ≤ K := by
            rcases Nat.lt_or_ge l K with h4 | h4
            · exact h4
            · have : 2 ^ K ≤ 2 ^ l := Nat.pow_le_pow_right (by decide) h4
              omega
          have hl : l + 1 ≤ 48 := by
            rcases Nat.lt_or_ge l 48 with h4 | h4
            · exact h4
            · have : 2 ^ 48 ≤ 2 ^ l := Nat.pow_le_pow_right (by decide) h4
              omega
          exact hmx (l + 1) (by omega) hl ⟨mod_pow_le hK hKl, by omega⟩
        · exact h3
      have ih := foldF_root L heL he s (b + 2 ^ l) l hs2 ht.tail hlt (by rw [Nat.add_mod_right]; exact h1) hb2
      cases s with
      | nil => rw [partsP_cons hlt] at hs2; cases hs2
      | cons q r =>
        show nd p.2.2 (foldF nd (q :: r)) = _
        rw [ih, hd, show e - b = 2 ^ l + (e - (b + 2 ^ l)) by omega, List.take_add, List.drop_drop]
        refine (root_join nd em l ?_ ?_ ?_).symm
        · rw [List.length_take, List.length_drop]; omega
        · rw [List.length_take, List.length_drop]; omega
        · rw [List.length_take, List.length_drop]; omega
    · rw [partsP_nil hlt] at hs2
      have hs0 : s = [] := by cases s with
        | nil => rfl
        | cons q r => cases hs2
      subst hs0
      show p.2.2 = _
      rw [hd, show e - b = 2 ^ l by omega]
theorem foldS_root (L : List (List UInt8)) (hL : L.length ≤ 2 ^ 48) {s : List Prt} (hs : nds s = (partsP 0 L.length).reverse) (ht : Tells nd em L s) (h0 : 0 < L.length) : foldS nd s em = root nd em L := by
  have h1 : nds s.reverse = partsP 0 L.length := by
    have := congrArg List.reverse hs
    rw [List.reverse_reverse] at this
    rw [← this]; simp [nds]
  have h2 := foldF_root nd em L (Nat.le_refl _) hL s.reverse 0 48 h1 (fun x hx => ht x (List.mem_reverse.1 hx)) h0 (by simp) (by omega)
  rw [Nat.sub_zero, List.drop_zero, List.take_length] at h2
  rw [← h2]
  cases s with
  | nil => rw [partsP_cons h0] at h1; cases h1
  | cons p s => rw [List.reverse_cons, foldF_snoc, List.reverse_reverse]; rfl
end
end Cop
set_option linter.unusedVariables false
namespace Cop
open Go Go.RowKit
section
variable {P : Program} {Q : Exit → Act → World → Prop} {S : World → Prop} {z : Nat} {l : List Oper} {a : Act} {w : World} {i : Nat} {k : Ord} {o : Oper}
theorem og_rskip (ho : l[i]? = some o) (hw : Region.wanted o (yielded l.toArray a.tmps) = false) (hS : S w) (a' : Act) (ha : a.put o.dst undef = a') (h : Shut 0 (wpOrd P l.toArray Q S z k a' w)) :
    Shut 0 (wpOrd P l.toArray Q S z (.run i k) a w) := by
  subst ha
  refine ⟨?_⟩
  unfold wpOrd wpOp
  rw [show l.toArray[i]? = some o by simpa using ho]
  simp only [hw, Bool.false_eq_true, if_false]
  exact ⟨fun _ => hS, h.out⟩
end
end Cop
namespace Go.Proofs.YtlhebogbbkjahaaDoor
open Go.RowKit Cop
set_option linter.unusedVariables false
set_option linter.unusedSimpArgs false
/-- A part's cells. -/
def prv (p : Prt) : Array Value := (Value.int .i64 (p.1 : Int) :: Value.int .i64 (p.2.1 : Int) :: bl p.2.2).toArray
theorem prv_size {p : Prt} (h : p.2.2.length = 32) : (prv p).size = 34 := by simp [prv, bl_length, h]
theorem prv_one (p : Prt) : (prv p).all (·.oneCell') = true := by
  rw [Array.all_eq_true_iff_forall_mem]
  intro v hv
  simp only [prv, List.mem_toArray, List.mem_cons] at hv
  rcases hv with rfl | rfl | hv
  · rfl
  · rfl
  · simp [bl] at hv; obtain ⟨b, _, rfl⟩ := hv; rfl
theorem prS {p : Prt} (h : p.2.2.length = 32) : (Tryd.prog.info? 99).map (·.size) = some (prv p).size := by rw [prv_size h]; kernel_rfl
theorem prE {p q : Prt} (h : p.2.2.length = 32) (h2 : q.2.2.length = 32) : (prv p).size = (prv q).size := by rw [prv_size h, prv_size h2]
theorem prv_mid (p : Prt) (j : Nat) : (prv p)[2 + j]? = (bv p.2.2)[j]? := by
  rw [Nat.add_comm]
  have e : bv p.2.2 = (bl p.2.2).toArray := by rw [← bv_toList]
  rw [e]
  simp [prv]
theorem prv_0 (p : Prt) : (prv p)[0]? = some (.int .i64 (p.1 : Int)) := rfl
theorem prv_1 (p : Prt) : (prv p)[1]? = some (.int .i64 (p.2.1 : Int)) := rfl
set_option maxRecDepth 100000 in
theorem built_prt (l i : Nat) {d : List UInt8} (h : d.length = 32) : Tryd.prog.built 99 [(0, .agg #[.int .i64 (l : Int), .int .i64 (i : Int)]), (1, .agg (bv d))] = some (prv (l, i, d)) := by
  obtain ⟨a0, a1, a2, a3, a4, a5, a6, a7, b0, b1, b2, b3, b4, b5, b6, b7, c0, c1, c2, c3, c4, c5, c6, c7, d0, d1, d2, d3, d4, d5, d6, d7, rfl⟩ := len32 h
  kernel_rfl
theorem run_prt (l i : Nat) {d : List UInt8} (h : d.length = 32) (w : World) : (Instr.build 99 #[(0, .agg #[.int .i64 (l : Int), .int .i64 (i : Int)]), (1, .agg (bv d))]).run Tryd.prog w = .ok (.agg (prv (l, i, d))) w := run_build w _ _ _ (built_prt l i h)
/-- A stack of parts (the last one first) as it lies in memory. -/
def rcs : List Prt → List Value
  | [] => []
  | p :: s => rcs s ++ (prv p).toList
theorem rcs_length {s : List Prt} (h : All32 s) : (rcs s).length = s.length * 34 := by
  induction s with
  | nil => rfl
  | cons p s ih => rw [rcs, List.length_append, ih h.tail, show (prv p).toList.length = 34 from (Array.length_toList (xs := prv p)).trans (prv_size h.head), List.length_cons]; omega
theorem rcs_top {p : Prt} {s : List Prt} (h : All32 (p :: s)) (j : Nat) : (rcs (p :: s))[s.length * 34 + j]? = (prv p)[j]? := by
  rw [rcs, List.getElem?_append_right (by rw [rcs_length h.tail]; omega), rcs_length h.tail, show s.length * 34 + j - s.length * 34 = j from by omega]
  simp
theorem rcs_mid {A : List Prt} {q : Prt} {rest : List Prt} (h : All32 (q :: rest)) (j : Nat) (hj : j < 34) : (rcs (A ++ q :: rest))[rest.length * 34 + j]? = (prv q)[j]? := by
  have hv : ∃ v, (prv q)[j]? = some v := ⟨_, Array.getElem?_eq_getElem (by rw [prv_size h.head]; exact hj)⟩
  obtain ⟨v, hv⟩ := hv
  rw [hv]
  induction A with
  | nil => exact (rcs_top h j).trans hv
  | cons p A ih =>
    rw [List.cons_append, rcs, List.getElem?_append_left]
    · exact ih
    · exact (List.getElem?_eq_some_iff.1 ih).1
theorem rcs_one (s : List Prt) : ∀ c ∈ rcs s, c.oneCell' = true := by
  induction s with
  | nil => intro c hc; cases hc
  | cons p s ih =>
    intro c hc
    rw [rcs, List.mem_append] at hc
    rcases hc with hc | hc
    · exact ih c hc
    · exact (Array.all_eq_true_iff_forall_mem.1 (prv_one p)) c (by simpa using hc)
/-- A range's cells. -/
def rgv (b e : Int) (v : Value) : Array Value := #[.bool true, .int .i64 b, .int .i64 e, v]
def Z32 : List UInt8 := List.replicate 32 0
theorem info_prt : (Tryd.prog.info? 99).map (fun i => (i.zero, i.size, i.bytes)) = some (some (.agg (prv (0, 0, Z32))), 34, 48) := by kernel_rfl
theorem fill_prt (p : Prt) (h : p.2.2.length = 32) : Instr.fill (fun i => some (i * 34, 34)) ((Array.range (1 * 34)).map ((Value.agg (prv (0, 0, Z32))).cells[· % (Value.agg (prv (0, 0, Z32))).cells.size]!)) [(0, Value.agg (prv p))] = some (prv p).toList.toArray := by
  obtain ⟨l, i, d⟩ := p
  obtain ⟨a0, a1, a2, a3, a4, a5, a6, a7, b0, b1, b2, b3, b4, b5, b6, b7, c0, c1, c2, c3, c4, c5, c6, c7, d0, d1, d2, d3, d4, d5, d6, d7, rfl⟩ := len32 h
  kernel_rfl
theorem shl_one {m : Nat} (h : m ≤ 62) : wrap64 (2 ^ m : Int) = ((2 ^ m : Nat) : Int) := by
  have h1 : 2 ^ m ≤ 2 ^ 62 := Nat.pow_le_pow_right (by decide) h
  have h2 : ((2 ^ m : Nat) : Int) = (2 : Int) ^ m := by simp
  rw [← h2]
  generalize 2 ^ m = q at h1
  unfold wrap64; omega
theorem wr64 {x : Int} (h0 : -4611686018427387904 ≤ x) (h1 : x ≤ 4611686018427387904) : IntKind.i64.wrap x = x := by rw [IntKind.wrap_i64]; omega
theorem shr_nat (x L : Nat) : ((x : Int) / 2 ^ L) = ((x / 2 ^ L : Nat) : Int) := by simp
section
variable {P : Program} {B : Nat} {w0 w : World} {R : List Pc} {o : Oper} {a : Act} {g : Nat} {b e : Int} {v : Value} {T : TypeId}
theorem ow_rv {K : Act → World → Prop} {Q : Exit → Act → World → Prop} (HS : Sep B w0 w R) (i : Nat) (hi : R[i]? = some (.row g (rgv b e v) T)) (ty : TypeId) (ad x : Operand) (hop : o.op = .store ty ad x) (hs1 : (P.info? ty).map (·.size) = some 1) {y : Value} (had : a.eval ad = .pointer (some ⟨g, 3, none⟩)) (hx : a.eval x = y)
    (h1 : y.oneCell' = true) (hyc : y.cells = #[y]) (h : ∀ w1, Sep B w0 w1 (R.set i (.row g (rgv b e y) T)) → K (a.put o.dst undef) w1) : o.wp P a w K Q :=
  ow_stc HS i hi ty ad x hop hs1 3 (by simp [rgv]) had hx h1 hyc h
theorem wl_rv {ops : Array Oper} {rest : List Oper} {Q : Exit → Act → World → Prop} (HS : Sep B w0 w R) (i : Nat) (hi : R[i]? = some (.row g (rgv b e v) T)) (hgd : o.guard = none) (ty : TypeId) (ad x : Operand) (hop : o.op = .store ty ad x) (hs1 : (P.info? ty).map (·.size) = some 1) {y : Value} (had : a.eval ad = .pointer (some ⟨g, 3, none⟩)) (hx : a.eval x = y)
    (h1 : y.oneCell' = true) (hyc : y.cells = #[y]) (h : ∀ w1, Sep B w0 w1 (R.set i (.row g (rgv b e y) T)) → wpList P ops Q rest (a.put o.dst undef) w1) : wpList P ops Q (o :: rest) a w :=
  wl_stc HS i hi hgd ty ad x hop hs1 3 (by simp [rgv]) had hx h1 hyc h
theorem ow_re {K : Act → World → Prop} {Q : Exit → Act → World → Prop} (HS : Sep B w0 w R) (i : Nat) (hi : R[i]? = some (.row g (rgv b e v) T)) (ty : TypeId) (ad x : Operand) (hop : o.op = .store ty ad x) (hs1 : (P.info? ty).map (·.size) = some 1) {f : Int} (had : a.eval ad = .pointer (some ⟨g, 2, none⟩)) (hx : a.eval x = .int .i64 f)
    (h : ∀ w1, Sep B w0 w1 (R.set i (.row g (rgv b f v) T)) → K (a.put o.dst undef) w1) : o.wp P a w K Q :=
  ow_stc HS i hi ty ad x hop hs1 2 (by simp [rgv]) had hx rfl rfl h
theorem ow_bs1 {K : Act → World → Prop} {Q : Exit → Act → World → Prop} (HS : Sep B w0 w R) (t e : TypeId) (size : Nat) (x : Operand) (ho : o.op = .buildSlice t 1 #[(0, x)]) (u : Value) (hx : a.eval x = u) (xs : List Value) (z : Value)
    (hu : P.underlying t = some (.slice e)) (hie : (P.info? e).map (fun i => (i.zero, i.size)) = some (some z, size)) (hpos : 0 < 1 * size) (hsmall : 1 * size ≤ 1024)
    (hf : Instr.fill (fun i => some (i * size, size)) ((Array.range (1 * size)).map (z.cells[· % z.cells.size]!)) [(0, u)] = some xs.toArray) (hxs : xs.length = 1 * size)
    (h : ∀ g w1, Sep B w0 w1 (.own (.slice (some ⟨g, 0, none⟩) 1 1) e size 1 xs :: R) → K (a.put o.dst (.slice (some ⟨g, 0, none⟩) 1 1)) w1) : o.wp P a w K Q :=
  ow_bs HS t e 1 size #[(0, x)] ho xs z hu hie hpos hsmall (by simpa [hx] using hf) hxs h
end
theorem none_r {B : Nat} {w0 w : World} {R : List Pc} (i : Nat) {g : Nat} {b e : Int} {v : Value} (hi : R[i]? = some (.row g (rgv b e v) 61)) (HS : Sep B w0 w R) : Calls Tryd.prog 37 #[.pointer (some ⟨g, 0, none⟩)] w fun e w' => e = .returned (.bool false) ∧ w' = w := by
  have h : w.cell? ⟨g, 0, none⟩ = some (.bool true) := by rw [row_cell (HS.row i hi)]; rfl
  clear HS
  go_enter Tryd.func37, Tryd.ntmps37
  go_wp2
  go_ret
  exact ⟨rfl, rfl⟩
end Go.Proofs.YtlhebogbbkjahaaDoor
namespace Go.Proofs.YtlhebogbbkjahaaDoor
open Go.RowKit Cop
set_option linter.unusedVariables false
set_option linter.unusedSimpArgs false
/-- Pairs of numbers, as cells. -/
def scs (l : List (Nat × Nat)) : List Value := l.flatMap fun p => [.int .i64 (p.1 : Int), .int .i64 (p.2 : Int)]
def spv (p : Nat × Nat) : Array Value := #[.int .i64 (p.1 : Int), .int .i64 (p.2 : Int)]
theorem scs_cons (p : Nat × Nat) (l : List (Nat × Nat)) : scs (p :: l) = (spv p).toList ++ scs l := by simp [scs, spv]
theorem scs_append (a b : List (Nat × Nat)) : scs (a ++ b) = scs a ++ scs b := by simp [scs]
theorem scs_length (l : List (Nat × Nat)) : (scs l).length = l.length * 2 := by
  induction l with
  | nil => rfl
  | cons p l ih => rw [scs_cons, List.length_append, ih, List.length_cons]; simp [spv]; omega
theorem scs_one (l : List (Nat × Nat)) : ∀ c ∈ scs l, c.oneCell' = true := by
  intro c hc
  simp only [scs, List.mem_flatMap] at hc
  obtain ⟨x, _, hc⟩ := hc
  simp at hc
  rcases hc with rfl | rfl <;> rfl
theorem spv_one (p : Nat × Nat) : (spv p).all (·.oneCell') = true := by simp [spv, Value.oneCell']
theorem scs_drop (l : List (Nat × Nat)) : ∀ k, (scs l).drop (k * 2) = scs (l.drop k) := by
  induction l with
  | nil => intro k; simp [scs]
  | cons p l ih =>
    intro k
    cases k with
    | zero => simp
    | succ k => rw [scs_cons, show (k + 1) * 2 = (spv p).toList.length + k * 2 from by simp [spv]; omega, List.drop_append, Nat.add_sub_cancel_left, List.drop_of_length_le (by omega), List.nil_append, ih, List.drop_succ_cons]
theorem scs_take (l : List (Nat × Nat)) : ∀ k, (scs l).take (k * 2) = scs (l.take k) := by
  induction l with
  | nil => intro k; simp [scs]
  | cons p l ih =>
    intro k
    cases k with
    | zero => simp [scs]
    | succ k => rw [scs_cons, show (k + 1) * 2 = (spv p).toList.length + k * 2 from by simp [spv]; omega, List.take_append, Nat.add_sub_cancel_left, List.take_of_length_le (by omega), ih, List.take_succ_cons, scs_cons]
theorem scs_at (l : List (Nat × Nat)) (k : Nat) (hk : k < l.length) (p : Nat × Nat) (hp : l.getD k (0, 0) = p) : (scs l)[k * 2]? = some (.int .i64 (p.1 : Int)) ∧ (scs l)[k * 2 + 1]? = some (.int .i64 (p.2 : Int)) := by
  have h : l.drop k = p :: l.drop (k + 1) := by
    rw [List.drop_eq_getElem_cons hk]
    simp only [List.getD, List.getElem?_eq_getElem hk, Option.getD_some] at hp
    rw [hp]
  have h2 := scs_drop l k
  rw [h, scs_cons] at h2
  refine ⟨?_, ?_⟩
  · have := congrArg (fun x => x[0]?) h2
    simpa [spv, List.getElem?_drop] using this
  · have := congrArg (fun x => x[1]?) h2
    simpa [spv, List.getElem?_drop] using this
theorem scs_set (l : List (Nat × Nat)) (k : Nat) (hk : k < l.length) (p : Nat × Nat) : (scs l).take (k * 2) ++ (spv p).toList ++ (scs l).drop (k * 2 + (spv p).size) = scs (l.set k p) := by
  rw [show k * 2 + (spv p).size = (k + 1) * 2 from by simp [spv]; omega, scs_take, scs_drop, List.set_eq_take_append_cons_drop, if_pos hk, scs_append, scs_cons, List.append_assoc]
theorem span_info : (Tryd.prog.info? 31).map (fun i => (i.zero, i.size)) = some (some (.agg #[.int .i64 0, .int .i64 0]), 2) := by kernel_rfl
theorem span_info3 : (Tryd.prog.info? 31).map (fun i => (i.zero, i.size, i.bytes)) = some (some (.agg #[.int .i64 0, .int .i64 0]), 2, 16) := by kernel_rfl
theorem spS (p : Nat × Nat) : (Tryd.prog.info? 31).map (·.size) = some (spv p).size := by
  have := congrArg (Option.map (fun x => x.2)) span_info
  simpa [Option.map_map, Function.comp_def, spv] using this
section
variable {w0 w : World} {B : Nat} {R : List Pc} {o : Oper} {a : Act} {K : Act → World → Prop} {Q : Exit → Act → World → Prop}
theorem load_sp {b o n c : Nat} {l : List (Nat × Nat)} (hR : Rd w (.slice (some ⟨b, o, none⟩) n c) n 2 (scs l)) (hn : n = l.length) (k : Nat) (hk : k < n) (p : Nat × Nat) (hp : l.getD k (0, 0) = p) :
    (Instr.loadAt 31 (.pointer (some ⟨b, o + k * 2, none⟩))).run Tryd.prog w = .ok (.agg (spv p)) w := by
  obtain ⟨h1, h2⟩ := scs_at l k (by omega) p hp
  refine load_cells (spv p) (fun j u hu => ?_) 31 Tryd.underlying31 rfl (spS p)
  have hj : j < 2 := by have := (Array.getElem?_eq_some_iff.1 hu).1; simpa [spv] using this
  rw [Nat.add_assoc]
  refine rd_cell hR (by omega) (k * 2 + j) ?_
  rcases (show j = 0 ∨ j = 1 by omega) with rfl | rfl
  · rw [Nat.add_zero, h1]; simpa [spv] using hu
  · rw [h2]; simpa [spv] using hu
end
theorem cells_sp {W : World} {B : Nat} {w0 : World} {R : List Pc} {g c : Nat} {l : List (Nat × Nat)} (HS : Sep B w0 W R) (i : Nat) (hi : R[i]? = some (.own (.slice (some ⟨g, 0, none⟩) l.length c) 31 2 l.length (scs l))) (k : Nat) (hk : k < l.length) (x y : Nat) (hp : l.getD k (0, 0) = (x, y)) :
    W.cell? ⟨g, k * 2, none⟩ = some (.int .i64 (x : Int)) ∧ W.cell? ⟨g, k * 2 + 1, none⟩ = some (.int .i64 (y : Int)) := by
  obtain ⟨h1, h2⟩ := scs_at l k hk (x, y) hp
  exact ⟨own_cell (HS.own i hi) _ h1, own_cell (HS.own i hi) _ h2⟩
theorem drop_at {α : Type} {l : List α} {k : Nat} {z x : α} (hk : k < l.length) (h : l.getD k z = x) : l.drop k = x :: l.drop (k + 1) := by
  rw [List.drop_eq_getElem_cons hk]
  simp only [List.getD, List.getElem?_eq_getElem hk, Option.getD_some] at h
  rw [h]
end Go.Proofs.YtlhebogbbkjahaaDoor
namespace Cop
set_option linter.unusedVariables false
/-- The stack of a range. -/
def GoodR (b e : Nat) (s : List Prt) : Prop := b ≤ e ∧ e ≤ 281474976710656 ∧ nds s = (partsP b e).reverse ∧ All32 s
theorem GoodR.len {b e : Nat} {s : List Prt} (h : GoodR b e s) : s.length ≤ 96 := nds_len h.2.2.1 h.1 h.2.1
theorem good_nil {b : Nat} (h : b ≤ 281474976710656) : GoodR b b [] := ⟨Nat.le_refl _, h, by rw [partsP_nil (by omega)]; rfl, fun _ hx => by cases hx⟩
theorem nds_nil {s : List Prt} (h : nds s = []) : s = [] := by cases s with
  | nil => rfl
  | cons p s => cases h
theorem good_empty {b : Nat} {s : List Prt} (h : GoodR b b s) : s = [] := by
  have := h.2.2.1
  rw [partsP_nil (by omega)] at this
  exact nds_nil this
theorem nds_reverse (s : List Prt) : nds s.reverse = (nds s).reverse := by simp [nds]
theorem good_fw {b e : Nat} {s : List Prt} (h : GoodR b e s) : Fw b (nds s.reverse) e := by
  rw [nds_reverse, h.2.2.1, List.reverse_reverse]
  exact fw_parts _ b (Nat.le_refl _) h.1
section
variable (nd : List UInt8 → List UInt8 → List UInt8)
theorem good_carry (hnd : ∀ a b, (nd a b).length = 32) {b e l : Nat} {s : List Prt} {d : List UInt8} (h : GoodR b e s) (hd : d.length = 32) (hl : e % 2 ^ l = 0) (he : e + 2 ^ l ≤ 281474976710656) : GoodR b (e + 2 ^ l) (carry nd s (l, e / 2 ^ l, d)) :=
  ⟨by have := h.1; omega, he, carry_nds nd d h.2.2.1 h.1 hl he, carry_32 nd hnd s _ h.2.2.2 hd⟩
/-- Whatever is put behind. -/
def Fits (e l : Nat) : Prop := l ≤ 48 ∧ e % 2 ^ l = 0 ∧ e + 2 ^ l ≤ 281474976710656
instance (e l : Nat) : Decidable (Fits e l) := by unfold Fits; infer_instance
def appN (x : Nat × List Prt) (l : Nat) (d : List UInt8) : Nat × List Prt := if Fits x.1 l then (x.1 + 2 ^ l, carry nd x.2 (l, x.1 / 2 ^ l, d)) else x
theorem good_appN (hnd : ∀ a b, (nd a b).length = 32) {b : Nat} {x : Nat × List Prt} (l : Nat) {d : List UInt8} (h : GoodR b x.1 x.2) (hd : d.length = 32) : GoodR b (appN nd x l d).1 (appN nd x l d).2 := by
  unfold appN
  split
  · rename_i hf
    exact good_carry nd hnd h hd hf.2.1 hf.2.2
  · exact h
/-- Parts that are put behind one by one. -/
def putAll (x : Nat × List Prt) (ps : List Prt) : Nat × List Prt := ps.foldl (fun x p => appN nd x p.1 p.2.2) x
theorem putAll_snoc (x : Nat × List Prt) (ps : List Prt) (p : Prt) : putAll nd x (ps ++ [p]) = appN nd (putAll nd x ps) p.1 p.2.2 := by simp [putAll, List.foldl_append]
theorem good_putAll (hnd : ∀ a b, (nd a b).length = 32) {b : Nat} : ∀ (ps : List Prt) (x : Nat × List Prt), All32 ps → GoodR b x.1 x.2 → GoodR b (putAll nd x ps).1 (putAll nd x ps).2
  | [], x, _, h => h
  | p :: ps, x, hp, h => good_putAll hnd ps _ hp.tail (good_appN nd hnd p.1 h hp.head)
/-- Neighbours fit. -/
theorem putAll_fw {f : Nat} (hf : f ≤ 281474976710656) : ∀ (ps : List Prt) (x : Nat × List Prt), Fw x.1 (nds ps) f → (putAll nd x ps).1 = f
  | [], x, h => h
  | p :: ps, x, h => by
    have h1 : x.1 = p.2.1 * 2 ^ p.1 := h.1
    have h2 : Fw ((p.2.1 + 1) * 2 ^ p.1) (nds ps) f := h.2
    have hle := fw_le _ _ _ h2
    have hs : (p.2.1 + 1) * 2 ^ p.1 = x.1 + 2 ^ p.1 := by rw [h1, Nat.add_mul, Nat.one_mul]
    have hfit : Fits x.1 p.1 := by
      refine ⟨?_, by rw [h1]; exact Nat.mul_mod_left _ _, by omega⟩
      rcases Nat.lt_or_ge 48 p.1 with h3 | h3
      · have : 2 ^ 49 ≤ 2 ^ p.1 := Nat.pow_le_pow_right (by decide) h3
        omega
      · exact h3
    show (putAll nd (appN nd x p.1 p.2.2) ps).1 = f
    refine putAll_fw hf ps _ ?_
    unfold appN
    rw [if_pos hfit]
    show Fw (x.1 + 2 ^ p.1) (nds ps) f
    rw [← hs]
    exact h2
theorem putAll_good {b e f : Nat} {s t : List Prt} (h : GoodR b e s) (h2 : GoodR e f t) : (putAll nd (e, s) t.reverse).1 = f := putAll_fw nd h2.2.1 _ _ (good_fw h2)
end
end Cop
namespace Go.Proofs.YtlhebogbbkjahaaDoor
open Go.RowKit Cop
set_option linter.unusedVariables false
set_option linter.unusedSimpArgs false
/-- A range in memory. -/
def RgAt (B : Nat) (w0 : World) (g : Nat) (b : Int) (e : Nat) (s : List Prt) (R : List Pc) (w : World) : Prop :=
  ∃ v, Sep B w0 w (.row g (rgv b e v) 61 :: .own v 99 34 s.length (rcs s) :: R)
theorem eq_of_beq_false {a b : Int} (h : (a == b) = false) : a ≠ b := by simpa using h
theorem rg_e {B : Nat} {w0 w : World} {R : List Pc} (HS : Sep B w0 w R) (i : Nat) {g : Nat} {b e : Int} {v : Value} (hi : R[i]? = some (.row g (rgv b e v) 61)) : w.cell? ⟨g, 2, none⟩ = some (.int .i64 e) := by rw [row_cell (HS.row i hi)]; rfl
theorem rg_b {B : Nat} {w0 w : World} {R : List Pc} (HS : Sep B w0 w R) (i : Nat) {g : Nat} {b e : Int} {v : Value} (hi : R[i]? = some (.row g (rgv b e v) 61)) : w.cell? ⟨g, 1, none⟩ = some (.int .i64 b) := by rw [row_cell (HS.row i hi)]; rfl
theorem rg_v {B : Nat} {w0 w : World} {R : List Pc} (HS : Sep B w0 w R) (i : Nat) {g : Nat} {b e : Int} {v : Value} (hi : R[i]? = some (.row g (rgv b e v) 61)) : w.cell? ⟨g, 3, none⟩ = some v := by rw [row_cell (HS.row i hi)]; rfl
theorem and_mod (e l : Nat) (hl : l ≤ 48) (he : e ≤ 281474976710656) : bits .and .i64 (e : Int) (((2 ^ l : Nat) : Int) - 1) = ((e % 2 ^ l : Nat) : Int) := by
  have h := bits_mask .i64 63 (by decide) (fun n h0 h1 => by rw [show (2 : Int) ^ 63 = 9223372036854775808 by decide] at h1; rw [IntKind.wrap_i64]; omega) l (by omega) (e : Int) (by omega) (by rw [show (2 : Int) ^ 63 = 9223372036854775808 by decide]; omega)
  have e1 : ((2 ^ l : Nat) : Int) = (2 : Int) ^ l := by simp
  rw [e1, h, ← e1]
  omega
set_option maxRecDepth 100000 in
set_option maxHeartbeats 40000000 in
theorem appendNode_a (nd : List UInt8 → List UInt8 → List UInt8) (hnd : ∀ a b, (nd a b).length = 32) (B : Nat) (w0 w : World) (g : Nat) (b : Int) (e l : Nat) (d : List UInt8) (v : Value) (s : List Prt) (R : List Pc)
    (hd : d.length = 32) (hs : All32 s) (hsl : s.length ≤ 96) (hl : l ≤ 48) (he : e % 2 ^ l = 0) (hle : e + 2 ^ l ≤ 281474976710656)
    (hCN : ∀ w' a b, Below B w0 w' → a.length = 32 → b.length = 32 → Gives 42 #[.agg (bv a), .agg (bv b)] w' (.agg (bv (nd a b))))
    (HS : Sep B w0 w (.row g (rgv b e v) 61 :: .own v 99 34 s.length (rcs s) :: R)) :
    Calls Tryd.prog 17 #[.pointer (some ⟨g, 0, none⟩), .int .i64 l, .agg (bv d)] w fun r w' => r = .returned (.int .i64 0) ∧ RgAt B w0 g b (e + 2 ^ l) (carry nd s (l, e / 2 ^ l, d)) R w' := by
  have CN := Lib.hid hCN
  obtain ⟨A0, c0', rfl, hc0'⟩ := (HS.own 1 rfl).sl
  have HND := Lib.hid hnd
  have HA32 := Lib.hid hs
  have hpw := shl_one (m := l) (by omega)
  have hp2 : 1 ≤ 2 ^ l := Nat.one_le_two_pow
  have hsr := shr_nat e l
  have hand := and_mod e l hl (by omega)
  rw [he] at hand
  obtain ⟨L, hL⟩ : ∃ L, carry nd s (l, e / 2 ^ l, d) = L := ⟨_, rfl⟩
  obtain ⟨q, hq⟩ : ∃ q, e / 2 ^ l = q := ⟨_, rfl⟩
  have hq48 : q ≤ 281474976710656 := by rw [← hq]; exact Nat.le_trans (Nat.div_le_self _ _) (by omega)
  rw [hL]
  obtain ⟨P2, hP2⟩ : ∃ p, (2 ^ l : Nat) = p := ⟨_, rfl⟩
  have hpi : ((2 : Int) ^ l) = (P2 : Int) := by rw [← hP2]; simp
  rw [hq] at hL hsr
  rw [hP2] at hpw hp2 hand hle ⊢
  rw [hpi] at hpw hsr
  have HLL := Lib.hid hL
  have HAND := Lib.hid hand
  have HPI := Lib.hid hpi
  have HSR := Lib.hid hsr
  clear hCN hnd hs hL hq hP2 hand he hpi hsr
  have HPW := Lib.hid (wr64 (x := (P2 : Int)) (by omega) (by omega))
  have HPM := Lib.hid (wr64 (x := (P2 : Int) - 1) (by omega) (by omega))
  have HPX := Lib.hid (wr64 (x := 281474976710656 - (e : Int)) (by omega) (by omega))
  have HPE := Lib.hid (wr64 (x := (e : Int) + (P2 : Int)) (by omega) (by omega))
  have HPD := Lib.hid (show decide (281474976710656 - (e : Int) < (P2 : Int)) = false from decide_eq_false (by omega))
  have hl0 : decide ((l : Int) < 0) = false := decide_eq_false (by omega)
  have hl1 : decide ((48 : Int) < (l : Int)) = false := decide_eq_false (by omega)
  go_enter Tryd.func17, Tryd.ntmps17
  go_wp2_with (first | refine wl_bx HS rfl 33 _ rfl (bv d) rfl ?_)
  intro g5 w1 HS1
  clear HS
  go_wp2_with fail
  (with_reducible refine Calls.mono (none_r 1 rfl HS1) ?_)
  rintro e w2 ⟨rfl, rfl⟩
  go_wp2
  refine Cop.region_ord (fun w' => Sep B w0 w' (.row g5 (bv d) 33 :: .row g (rgv b e (.slice A0 s.length c0')) 61 :: .own (.slice A0 s.length c0') 99 34 s.length (rcs s) :: R)) 10 (.take 0 (.take 1 (.take 2 (.take 3 (.take 4 (.take 5 (.take 6 (.take 7 (.take 8 (.take 9 (.take 10 Cop.Ord.fin))))))))))) (by kernel_rfl) (by kernel_rfl) (fun _ _ d _ _ h => by cases d <;> exact h) ?_
  intro wa hda
  have HSa := HS1.keep hda
  clear HS1
  (repeat (first | (refine Cop.og_skip rfl rfl HSa _ (by (simp only [Act.put, List.setIfInBounds_toArray, List.set_cons_succ, List.set_cons_zero]; rfl)) ?_) | (refine Cop.og_take rfl rfl HSa ?_; apply Exists.intro; refine ⟨fun w9 h9 => ?_, _, by (simp only [Act.put, List.setIfInBounds_toArray, List.set_cons_succ, List.set_cons_zero]; rfl), ?_⟩; (have c0 := rg_e h9 1 rfl; have q0 := HPI.out; have q1 := HPW.out; have q2 := HAND.out; have q3 := HPM.out; go_simp; with_reducible rfl))))
  refine og_fin ?_
  go_wp2
  refine Cop.region_ord (fun w' => Sep B w0 w' (.row g5 (bv d) 33 :: .row g (rgv b e (.slice A0 s.length c0')) 61 :: .own (.slice A0 s.length c0') 99 34 s.length (rcs s) :: R)) 9 (.take 0 (.take 1 (.take 2 (.take 3 (.take 4 (.take 5 (.take 6 (.take 7 (.take 8 (.take 9 Cop.Ord.fin)))))))))) (by kernel_rfl) (by kernel_rfl) (fun _ _ d _ _ h => by cases d <;> exact h) ?_
  intro wb hdb
  have HSb := HSa.keep hdb
  clear HSa
  (repeat (first | (refine Cop.og_skip rfl rfl HSb _ (by (simp only [Act.put, List.setIfInBounds_toArray, List.set_cons_succ, List.set_cons_zero]; rfl)) ?_) | (refine Cop.og_take rfl rfl HSb ?_; apply Exists.intro; refine ⟨fun w9 h9 => ?_, _, by (simp only [Act.put, List.setIfInBounds_toArray, List.set_cons_succ, List.set_cons_zero]; rfl), ?_⟩; (have c0 := rg_e h9 1 rfl; have q0 := HPI.out; have q1 := HPW.out; have q2 := HPX.out; have q3 := HPD.out; go_simp; with_reducible rfl))))
  refine og_fin ?_
  go_wp2
  refine Cop.region_ord (fun w' => Sep B w0 w' (.row g5 (bv d) 33 :: .row g (rgv b e (.slice A0 s.length c0')) 61 :: .own (.slice A0 s.length c0') 99 34 s.length (rcs s) :: R)) 12 (.take 0 (.take 1 (.take 2 (.take 3 (.take 4 (.take 5 (.take 6 (.take 7 (.take 8 (.take 9 (.take 10 (.run 11 (.run 12 Cop.Ord.fin))))))))))))) (by kernel_rfl) (by kernel_rfl) (fun _ _ d _ _ h => by cases d <;> exact h) ?_
  intro wc hdc
  have HSc := HSb.keep hdc
  clear HSb
  (repeat (first | (refine Cop.og_skip rfl rfl HSc _ (by (simp only [Act.put, List.setIfInBounds_toArray, List.set_cons_succ, List.set_cons_zero]; rfl)) ?_) | (refine Cop.og_ld rfl rfl HSc 33 _ rfl (.pointer (some ⟨g5, 0, none⟩)) rfl _ (fun w9 h9 => load_row (h9.row 0 rfl) 33 Tryd.underlying33 rfl (dgS hd)) _ (by (simp only [Act.put, List.setIfInBounds_toArray, List.set_cons_succ, List.set_cons_zero]; rfl)) ?_) | (refine Cop.og_take rfl rfl HSc ?_; apply Exists.intro; refine ⟨fun w9 h9 => ?_, _, by (simp only [Act.put, List.setIfInBounds_toArray, List.set_cons_succ, List.set_cons_zero]; rfl), ?_⟩; (have c0 := rg_e h9 1 rfl; have q0 := HPI.out; have q1 := HSR.out; go_simp; with_reducible rfl))))
  refine Cop.og_take rfl rfl HSc ⟨.agg (prv (l, q, d)), fun w9 h9 => exec_bd 99 _ rfl #[(0, .agg #[.int .i64 (l : Int), .int .i64 (q : Int)]), (1, .agg (bv d))] (by kernel_rfl) _ (run_prt l q hd w9), _, (by (simp only [Act.put, List.setIfInBounds_toArray, List.set_cons_succ, List.set_cons_zero]; rfl)), ?_⟩
  refine Cop.og_run rfl rfl ?_
  refine ow_al HSc 99 rfl (prv (0, 0, Z32)) (by kernel_rfl) ?_
  intro g7 wd HSd
  refine ⟨fun _ => HSd.tail, ?_⟩
  refine Cop.og_run rfl rfl ?_
  refine ow_st HSd 0 rfl 99 _ _ rfl rfl rfl (prS hd) (prE rfl hd) (prv_one _) ?_
  intro we HSe
  refine ⟨fun h => absurd rfl h, ?_⟩
  refine og_fin ?_
  have cv := rg_v HSe 2 rfl
  have HQ0 := Lib.hid hq48
  have HL0 := Lib.hid (show l + s.length ≤ 144 by omega)
  clear HSc HSd hsl hq48
  go_wp2
  clear cv
  go_loopw [8] (fun s8 wr => ∃ (s : List Prt) (p : Prt) (A : Option Addr) (c : Nat), s8 = .int .i64 s.length ∧ carry nd s p = L ∧ All32 (p :: s) ∧ p.1 + s.length ≤ 144 ∧ p.2.1 ≤ 281474976710656 ∧ Sep B w0 wr (.row g7 (prv p) 99 :: .row g5 (bv d) 33 :: .row g (rgv b e (.slice A s.length c)) 61 :: .own (.slice A s.length c) 99 34 s.length (rcs s) :: R)) (fun s8 _ => (intOf s8).toNat)
  case atStart => exact ⟨s, (l, q, d), A0, c0', rfl, HLL.out, fun x hx => by
      rcases List.mem_cons.1 hx with rfl | hx
      · exact hd
      · exact HA32.out x hx, HL0.out, HQ0.out, HSe⟩
  case round =>
    clear HSe HL0 HQ0
    obtain ⟨s, p, A, c, rfl, hcar, hall, hsum, hidx, HSj⟩ := hrel
    obtain ⟨pl, px, pd⟩ := p
    have hpd : pd.length = 32 := hall.head
    cases s with
    | nil =>
      have hcar2 : [(pl, px, pd)] = L := hcar
      clear hcar
      go_wp2
      have HT := Lib.hid hcar2
      have HLEN := Lib.hid (show L.length ≤ 146 by rw [← hcar2]; (show 1 ≤ 146; decide))
      clear hcar2
      refine Cop.region_ord (fun w' => Sep B w0 w' [.row g7 (prv (pl, px, pd)) 99, .row g (rgv b e (.slice A ([] : List Prt).length c)) 61]) 10 (.take 0 (.take 1 (.take 2 (.take 3 (.take 4 (.take 5 (.run 6 (.run 7 (.take 8 (.take 9 (.run 10 Cop.Ord.fin))))))))))) (by kernel_rfl) (by kernel_rfl) (fun _ _ d _ _ h => by cases d <;> exact h) ?_
      intro wf hdf
      replace HSj := HSj.keep hdf
      have HTf : Sep B w0 wf [.row g7 (prv (pl, px, pd)) 99, .row g (rgv b e (.slice A ([] : List Prt).length c)) 61] := HSj.sub (by repeat (first | exact List.nil_sublist _ | exact List.Sublist.refl _ | apply List.Sublist.cons_cons | apply List.Sublist.cons))
      (repeat (first | (refine Cop.og_skip rfl rfl HTf _ (by (simp only [Act.put, List.setIfInBounds_toArray, List.set_cons_succ, List.set_cons_zero]; rfl)) ?_) | (refine Cop.og_ld rfl rfl HTf 99 _ rfl (.pointer (some ⟨g7, 0, none⟩)) rfl _ (fun w9 h9 => load_row (h9.row 0 rfl) 99 Tryd.underlying99 rfl (prS hpd)) _ (by (simp only [Act.put, List.setIfInBounds_toArray, List.set_cons_succ, List.set_cons_zero]; rfl)) ?_) | (refine Cop.og_take rfl rfl HTf ?_; apply Exists.intro; refine ⟨fun w9 h9 => ?_, _, by (simp only [Act.put, List.setIfInBounds_toArray, List.set_cons_succ, List.set_cons_zero]; rfl), ?_⟩; (have c0 := rg_v h9 1 rfl; go_simp; with_reducible rfl))))
      refine Cop.og_run rfl rfl ?_
      refine ow_bs1 HSj 59 99 34 _ rfl (.agg (prv (pl, px, pd))) rfl (prv (pl, px, pd)).toList (.agg (prv (0, 0, Z32))) Tryd.underlying59 (by kernel_rfl) (by decide) (by decide) (fill_prt (pl, px, pd) hpd) (by rw [Array.length_toList, prv_size hpd]) ?_
      intro gb wg HSg
      have HTg : Sep B w0 wg [.row g7 (prv (pl, px, pd)) 99, .row g (rgv b e (.slice A ([] : List Prt).length c)) 61] := HSg.sub (by repeat (first | exact List.nil_sublist _ | exact List.Sublist.refl _ | apply List.Sublist.cons_cons | apply List.Sublist.cons))
      refine ⟨fun _ => HTg, ?_⟩
      refine Cop.og_run rfl rfl ?_
      refine ow_apn HSg 4 rfl _ _ 59 (.agg (prv (0, 0, Z32))) 48 rfl Tryd.underlying59 (by kernel_rfl) rfl (by decide) (by decide) (HSg.own 0 rfl).rd (fun c hc => (Array.all_eq_true_iff_forall_mem.1 (prv_one (pl, px, pd))) c (by simpa using hc)) rfl rfl L.length (rcs L) (by rw [← HT.out]; rfl) (by rw [← HT.out]; rfl) (by have := HLEN.out; omega) ?_
      intro v9 wh HSh hgr
      obtain ⟨A9, c9, rfl, _⟩ := (HSh.own 4 rfl).sl
      have HTh : Sep B w0 wh [.row g7 (prv (pl, px, pd)) 99, .row g (rgv b e (.slice A ([] : List Prt).length c)) 61] := HSh.sub (by repeat (first | exact List.nil_sublist _ | exact List.Sublist.refl _ | apply List.Sublist.cons_cons | apply List.Sublist.cons))
      refine ⟨fun _ => HTh, ?_⟩
      (repeat (first | (refine Cop.og_skip rfl rfl HTh _ (by (simp only [Act.put, List.setIfInBounds_toArray, List.set_cons_succ, List.set_cons_zero]; rfl)) ?_) | (refine Cop.og_take rfl rfl HTh ?_; apply Exists.intro; refine ⟨fun w9 h9 => ?_, _, by (simp only [Act.put, List.setIfInBounds_toArray, List.set_cons_succ, List.set_cons_zero]; rfl), ?_⟩; (go_simp; with_reducible rfl))))
      refine Cop.og_run rfl rfl ?_
      refine ow_rv HSh 3 rfl 59 _ _ rfl (by kernel_rfl) rfl rfl rfl rfl ?_
      intro wi HSi
      refine ⟨fun h => absurd rfl h, ?_⟩
      refine og_fin ?_
      clear HTf HTg HTh HSj HSg HSh
      go_wp2
      refine Cop.region_ord (fun w' => Sep B w0 w' (.row g (rgv b e (.slice A9 L.length c9)) 61 :: .own (.slice A9 L.length c9) 99 34 L.length (rcs L) :: R)) 11 (.take 0 (.take 1 (.take 2 (.take 3 (.take 4 (.take 5 (.take 6 (.take 7 (.take 8 (.take 9 (.take 10 (.run 11 Cop.Ord.fin)))))))))))) (by kernel_rfl) (by kernel_rfl) (fun _ _ d _ _ h => by cases d <;> exact h) ?_
      intro wk hdk
      have HSk := (HSi.keep hdk).sub (show List.Sublist (.row g (rgv b e (.slice A9 L.length c9)) 61 :: .own (.slice A9 L.length c9) 99 34 L.length (rcs L) :: R) _ from ((List.Sublist.refl R |>.cons_cons _ |>.cons_cons _ |>.cons _ |>.cons _ |>.cons _)))
      (repeat (first | (refine Cop.og_skip rfl rfl HSk _ (by (simp only [Act.put, List.setIfInBounds_toArray, List.set_cons_succ, List.set_cons_zero]; rfl)) ?_) | (refine Cop.og_take rfl rfl HSk ?_; apply Exists.intro; refine ⟨fun w9 h9 => ?_, _, by (simp only [Act.put, List.setIfInBounds_toArray, List.set_cons_succ, List.set_cons_zero]; rfl), ?_⟩; (have c0 := rg_e h9 0 rfl; have q0 := HPI.out; have q1 := HPW.out; have q2 := HPE.out; go_simp; with_reducible rfl))))
      refine Cop.og_run rfl rfl ?_
      refine ow_re HSk 0 rfl 3 _ _ rfl (by kernel_rfl) rfl rfl ?_
      intro wl HSl
      refine ⟨fun h => absurd rfl h, ?_⟩
      refine og_fin ?_
      clear HSi HSk
      go_wp2
      go_ret
      exact ⟨rfl, _, HSl⟩
    | cons qq s => 
      obtain ⟨ql, qx, qd⟩ := qq
      have hqd : qd.length = 32 := hall.tail.head
      obtain ⟨m, hm⟩ : ∃ m, s.length = m := ⟨_, rfl⟩
      have hcap : m + 1 ≤ c := by
        obtain ⟨A9, c9, h1, h2⟩ := (HSj.own 3 rfl).sl
        injection h1 with _ _ h3
        rw [h3, ← hm]; exact h2
      obtain ⟨gp, rfl⟩ := Ow.addr (HSj.own 3 rfl) (by simp)
      have htop := Lib.hid (fun j => rcs_top hall.tail j)
      rw [show ((ql, qx, qd) :: s).length = m + 1 by rw [List.length_cons, hm]] at HSj hsum ⊢
      rw [hm] at htop
      have HM := Lib.hid hm
      have HALL := Lib.hid hall
      have HLD := Lib.hid (show (Instr.loadAt 99 (.pointer (some ⟨gp, m * 34, none⟩))).run Tryd.prog wr = .ok (.agg (prv (ql, qx, qd))) wr from
        load_cells (prv (ql, qx, qd)) (fun j u hu => own_cell (HSj.own 3 rfl) _ ((htop.out j).trans hu)) 99 Tryd.underlying99 rfl (prS hqd))
      have cv := rg_v HSj 2 rfl
      have hm0 : (0 : Int) < (m : Int) + 1 := by omega
      have hm1 : (m : Int) < (m : Int) + 1 := by omega
      clear hall hm
      go_wp2_with (first | refine wl_ldx rfl 99 _ rfl _ rfl (.agg (prv (ql, qx, qd))) HLD.out ?_ | refine wl_al HSj rfl 99 rfl (prv (0, 0, Z32)) (by kernel_rfl) ?_)
      intro g9 wf HSf
      go_wp2_with (first | refine wl_st HSf 0 rfl rfl 99 _ _ rfl rfl rfl (prS hqd) (prE rfl hqd) (prv_one _) ?_)
      intro wg HSg
      clear HSf HLD HSj cv
      have cq0 := (row_cell (HSg.row 0 rfl) 0).trans (prv_0 _)
      have cq1 := (row_cell (HSg.row 0 rfl) 1).trans (prv_1 _)
      have cp0 := (row_cell (HSg.row 1 rfl) 0).trans (prv_0 _)
      have cp1 := (row_cell (HSg.row 1 rfl) 1).trans (prv_1 _)
      dsimp only at cq0 cq1 cp0 cp1
      go_wp2
      ·
        rename_i hbrk K9 a9
        have hcar2 : (pl, px, pd) :: (ql, qx, qd) :: s = L := by
          rw [← hcar, carry, if_neg]
          rintro ⟨h1, h2, h3⟩
          dsimp only at h1 h2 h3
          (have h9 := eq_of_beq hbrk; first | omega | (rw [Int.tmod_eq_emod_of_nonneg (by omega)] at h9; omega))
        have HSj := HSg.tail
        clear HSg cq0 cq1 cp0 cp1 hcar
        have HT := Lib.hid hcar2
        have HLEN := Lib.hid (show L.length ≤ 146 by rw [← hcar2]; (simp only [List.length_cons, HM.out]; omega))
        clear hcar2
        refine Cop.region_ord (fun w' => Sep B w0 w' [.row g7 (prv (pl, px, pd)) 99, .row g (rgv b e (.slice (some ⟨gp, 0, none⟩) (m + 1) c)) 61]) 10 (.take 0 (.take 1 (.take 2 (.take 3 (.take 4 (.take 5 (.run 6 (.run 7 (.take 8 (.take 9 (.run 10 Cop.Ord.fin))))))))))) (by kernel_rfl) (by kernel_rfl) (fun _ _ d _ _ h => by cases d <;> exact h) ?_
        intro wf hdf
        replace HSj := HSj.keep hdf
        have HTf : Sep B w0 wf [.row g7 (prv (pl, px, pd)) 99, .row g (rgv b e (.slice (some ⟨gp, 0, none⟩) (m + 1) c)) 61] := HSj.sub (by repeat (first | exact List.nil_sublist _ | exact List.Sublist.refl _ | apply List.Sublist.cons_cons | apply List.Sublist.cons))
        (repeat (first | (refine Cop.og_skip rfl rfl HTf _ (by (simp only [Act.put, List.setIfInBounds_toArray, List.set_cons_succ, List.set_cons_zero]; rfl)) ?_) | (refine Cop.og_ld rfl rfl HTf 99 _ rfl (.pointer (some ⟨g7, 0, none⟩)) rfl _ (fun w9 h9 => load_row (h9.row 0 rfl) 99 Tryd.underlying99 rfl (prS hpd)) _ (by (simp only [Act.put, List.setIfInBounds_toArray, List.set_cons_succ, List.set_cons_zero]; rfl)) ?_) | (refine Cop.og_take rfl rfl HTf ?_; apply Exists.intro; refine ⟨fun w9 h9 => ?_, _, by (simp only [Act.put, List.setIfInBounds_toArray, List.set_cons_succ, List.set_cons_zero]; rfl), ?_⟩; (have c0 := rg_v h9 1 rfl; go_simp; with_reducible rfl))))
        refine Cop.og_run rfl rfl ?_
        refine ow_bs1 HSj 59 99 34 _ rfl (.agg (prv (pl, px, pd))) rfl (prv (pl, px, pd)).toList (.agg (prv (0, 0, Z32))) Tryd.underlying59 (by kernel_rfl) (by decide) (by decide) (fill_prt (pl, px, pd) hpd) (by rw [Array.length_toList, prv_size hpd]) ?_
        intro gb wg HSg
        have HTg : Sep B w0 wg [.row g7 (prv (pl, px, pd)) 99, .row g (rgv b e (.slice (some ⟨gp, 0, none⟩) (m + 1) c)) 61] := HSg.sub (by repeat (first | exact List.nil_sublist _ | exact List.Sublist.refl _ | apply List.Sublist.cons_cons | apply List.Sublist.cons))
        refine ⟨fun _ => HTg, ?_⟩
        refine Cop.og_run rfl rfl ?_
        refine ow_apn HSg 4 rfl _ _ 59 (.agg (prv (0, 0, Z32))) 48 rfl Tryd.underlying59 (by kernel_rfl) rfl (by decide) (by decide) (HSg.own 0 rfl).rd (fun c hc => (Array.all_eq_true_iff_forall_mem.1 (prv_one (pl, px, pd))) c (by simpa using hc)) rfl rfl L.length (rcs L) (by rw [← HT.out]; simp [HM.out]) (by rw [← HT.out]; rfl) (by have := HLEN.out; omega) ?_
        intro v9 wh HSh hgr
        obtain ⟨A9, c9, rfl, _⟩ := (HSh.own 4 rfl).sl
        have HTh : Sep B w0 wh [.row g7 (prv (pl, px, pd)) 99, .row g (rgv b e (.slice (some ⟨gp, 0, none⟩) (m + 1) c)) 61] := HSh.sub (by repeat (first | exact List.nil_sublist _ | exact List.Sublist.refl _ | apply List.Sublist.cons_cons | apply List.Sublist.cons))
        refine ⟨fun _ => HTh, ?_⟩
        (repeat (first | (refine Cop.og_skip rfl rfl HTh _ (by (simp only [Act.put, List.setIfInBounds_toArray, List.set_cons_succ, List.set_cons_zero]; rfl)) ?_) | (refine Cop.og_take rfl rfl HTh ?_; apply Exists.intro; refine ⟨fun w9 h9 => ?_, _, by (simp only [Act.put, List.setIfInBounds_toArray, List.set_cons_succ, List.set_cons_zero]; rfl), ?_⟩; (go_simp; with_reducible rfl))))
        refine Cop.og_run rfl rfl ?_
        refine ow_rv HSh 3 rfl 59 _ _ rfl (by kernel_rfl) rfl rfl rfl rfl ?_
        intro wi HSi
        refine ⟨fun h => absurd rfl h, ?_⟩
        refine og_fin ?_
        clear HTf HTg HTh HSj HSg HSh
        go_wp2
        refine Cop.region_ord (fun w' => Sep B w0 w' (.row g (rgv b e (.slice A9 L.length c9)) 61 :: .own (.slice A9 L.length c9) 99 34 L.length (rcs L) :: R)) 11 (.take 0 (.take 1 (.take 2 (.take 3 (.take 4 (.take 5 (.take 6 (.take 7 (.take 8 (.take 9 (.take 10 (.run 11 Cop.Ord.fin)))))))))))) (by kernel_rfl) (by kernel_rfl) (fun _ _ d _ _ h => by cases d <;> exact h) ?_
        intro wk hdk
        have HSk := (HSi.keep hdk).sub (show List.Sublist (.row g (rgv b e (.slice A9 L.length c9)) 61 :: .own (.slice A9 L.length c9) 99 34 L.length (rcs L) :: R) _ from ((List.Sublist.refl R |>.cons_cons _ |>.cons_cons _ |>.cons _ |>.cons _ |>.cons _)))
        (repeat (first | (refine Cop.og_skip rfl rfl HSk _ (by (simp only [Act.put, List.setIfInBounds_toArray, List.set_cons_succ, List.set_cons_zero]; rfl)) ?_) | (refine Cop.og_take rfl rfl HSk ?_; apply Exists.intro; refine ⟨fun w9 h9 => ?_, _, by (simp only [Act.put, List.setIfInBounds_toArray, List.set_cons_succ, List.set_cons_zero]; rfl), ?_⟩; (have c0 := rg_e h9 0 rfl; have q0 := HPI.out; have q1 := HPW.out; have q2 := HPE.out; go_simp; with_reducible rfl))))
        refine Cop.og_run rfl rfl ?_
        refine ow_re HSk 0 rfl 3 _ _ rfl (by kernel_rfl) rfl rfl ?_
        intro wl HSl
        refine ⟨fun h => absurd rfl h, ?_⟩
        refine og_fin ?_
        clear HSi HSk
        go_wp2
        go_ret
        exact ⟨rfl, _, HSl⟩
      · rename_i he1 he2 he3 K9 a9
        have h9 := eq_of_beq_false he3
        have hx1 : px % 2 = 1 := by first | omega | (rw [Int.tmod_eq_emod_of_nonneg (by omega)] at h9; omega)
        have hcar3 : carry nd s (pl + 1, px / 2, nd qd pd) = L := by
          rw [← hcar]
          conv => rhs; rw [carry]
          rw [if_pos ⟨by show ql = pl; omega, by show qx + 1 = px; omega, hx1⟩]
        have hDl : (nd qd pd).length = 32 := HND.out _ _
        have HCN := Lib.hid (fun w' hb => CN.out w' qd pd hb hqd hpd)
        have HW1 := Lib.hid (wr64 (x := (pl : Int) + 1) (by omega) (by omega))
        obtain ⟨x2, hx2⟩ : ∃ y, px / 2 = y := ⟨_, rfl⟩
        rw [hx2] at hcar3
        have HDV := Lib.hid (show (px : Int) / 2 = (x2 : Int) by omega)
        have HDT := Lib.hid (show Int.tdiv (px : Int) 2 = (x2 : Int) by rw [Int.tdiv_eq_ediv_of_nonneg (by omega)]; omega)
        have HDW := Lib.hid (wr64 (x := (x2 : Int)) (by omega) (by omega))
        have HX2 := Lib.hid (show x2 ≤ 281474976710656 by omega)
        have HCR := Lib.hid hcar3
        have HHI := Lib.hid hidx
        have HSU := Lib.hid hsum
        clear hx2 h9 hx1 he1 he2 he3 hcar hcar3 hidx hsum cq0 cq1
        refine Cop.region_ord (fun w' => Sep B w0 w' [.row g9 (prv (ql, qx, qd)) 99, .row g7 (prv (pl, px, pd)) 99]) 15 (.take 0 (.take 1 (.take 2 (.take 3 (.take 4 (.take 5 (.take 6 (.take 7 (.take 8 (.take 9 (.take 10 (.take 11 (.take 12 (.run 13 (.take 14 (.run 15 Cop.Ord.fin)))))))))))))))) (by kernel_rfl) (by kernel_rfl) (fun _ _ d _ _ h => by cases d <;> exact h) ?_
        intro wh hdh
        have HSh := HSg.keep hdh
        have HTh : Sep B w0 wh [.row g9 (prv (ql, qx, qd)) 99, .row g7 (prv (pl, px, pd)) 99] := HSh.sub (by repeat (first | exact List.nil_sublist _ | exact List.Sublist.refl _ | apply List.Sublist.cons_cons | apply List.Sublist.cons))
        clear HSg cp0 cp1
        (repeat (first | (refine Cop.og_skip rfl rfl HTh _ (by (simp only [Act.put, List.setIfInBounds_toArray, List.set_cons_succ, List.set_cons_zero]; rfl)) ?_) | (refine Cop.og_ld rfl rfl HTh 33 _ rfl (.pointer (some ⟨g9, 2, none⟩)) rfl (.agg (bv qd)) (fun w9 h9 => load_mid (h9.row 0 rfl) 2 (bv qd) (fun j _ => prv_mid (ql, qx, qd) j) 33 Tryd.underlying33 rfl (dgS hqd)) _ (by (simp only [Act.put, List.setIfInBounds_toArray, List.set_cons_succ, List.set_cons_zero]; rfl)) ?_) | (refine Cop.og_ld rfl rfl HTh 33 _ rfl (.pointer (some ⟨g7, 2, none⟩)) rfl (.agg (bv pd)) (fun w9 h9 => load_mid (h9.row 1 rfl) 2 (bv pd) (fun j _ => prv_mid (pl, px, pd) j) 33 Tryd.underlying33 rfl (dgS hpd)) _ (by (simp only [Act.put, List.setIfInBounds_toArray, List.set_cons_succ, List.set_cons_zero]; rfl)) ?_) | (refine Cop.og_take rfl rfl HTh ?_; apply Exists.intro; refine ⟨fun w9 h9 => ?_, _, by (simp only [Act.put, List.setIfInBounds_toArray, List.set_cons_succ, List.set_cons_zero]; rfl), ?_⟩; (have c0 := (row_cell (h9.row 1 rfl) 0).trans (prv_0 (pl, px, pd)); have c1 := (row_cell (h9.row 1 rfl) 1).trans (prv_1 (pl, px, pd)); have q0 := HW1.out; have q1 := HDV.out; have q2 := HDT.out; have q3 := HDW.out; go_simp; with_reducible rfl))))
        refine Cop.og_run rfl rfl ?_
        refine ow_call 42 _ _ (fun w' => Below wh.heap.size wh w') (by go_simp) (HCN.out wh HSh.hb) ?_
        intro wk bk
        have HSk := HSh.keep bk
        have HTk := HTh.keep bk
        refine ⟨fun _ => HTk, ?_⟩
        have HB2 := Lib.hid (show ∀ W, (Instr.build 99 #[(0, .agg #[.int .i64 ((pl : Int) + 1), .int .i64 (x2 : Int)]), (1, .agg (bv (nd qd pd)))]).run Tryd.prog W = .ok (.agg (prv (pl + 1, x2, nd qd pd))) W from fun W => by
          have := run_prt (pl + 1) x2 hDl W
          rwa [show ((pl + 1 : Nat) : Int) = (pl : Int) + 1 from rfl] at this)
        refine Cop.og_take rfl rfl HTk ⟨.agg (prv (pl + 1, x2, nd qd pd)), fun w9 h9 => exec_bd 99 _ rfl #[(0, .agg #[.int .i64 ((pl : Int) + 1), .int .i64 (x2 : Int)]), (1, .agg (bv (nd qd pd)))] (by kernel_rfl) _ (HB2.out w9), _, (by (simp only [Act.put, List.setIfInBounds_toArray, List.set_cons_succ, List.set_cons_zero]; rfl)), ?_⟩
        refine Cop.og_run rfl rfl ?_
        refine ow_st HSk 1 rfl 99 _ _ rfl rfl rfl (prS hDl) (prE hpd hDl) (prv_one _) ?_
        intro wm HSm
        refine ⟨fun h => absurd rfl h, ?_⟩
        refine og_fin ?_
        clear HTh HTk HSh HSk
        have cv := rg_v HSm 3 rfl
        have hm144 : m ≤ 144 := by have := HSU.out; omega
        obtain ⟨mw, hmw⟩ : ∃ x, wrap64 (m : Int) = x := ⟨_, rfl⟩
        have hmw2 : mw = (m : Int) := by rw [← hmw]; unfold wrap64; omega
        have hm2 : (0 : Int) ≤ mw := by omega
        have hm3 : mw ≤ (c : Int) := by omega
        have HMW := Lib.hid (show mw.toNat = m by omega)
        clear hmw2
        go_wp2_with (refine wl_rv HSm 3 rfl rfl 59 _ _ rfl (by kernel_rfl) rfl rfl rfl rfl ?_)
        intro wn HSn
        have HPL := Lib.hid (show (rcs s).length = m * 34 by rw [rcs_length HALL.out.tail.tail, HM.out])
        have cv2 := rg_v HSn 3 rfl
        clear HSm cv
        go_wp2
        clear cv2
        go_roundw
        case rel => exact ⟨s, (pl + 1, x2, nd qd pd), some ⟨gp, 0, none⟩, c, by rw [HM.out], HCR.out, fun x hx => by
            rcases List.mem_cons.1 hx with rfl | hx
            · exact hDl
            · exact HALL.out.tail.tail x hx, by rw [HM.out]; have := HSU.out; show pl + 1 + m ≤ 144; omega, HX2.out, by rw [HM.out]; exact (HSn.tail).shrink 3 rfl (by omega) HPL.out⟩
        case measure => simp [intOf]
      ·
        rename_i hbrk K9 a9
        have hcar2 : (pl, px, pd) :: (ql, qx, qd) :: s = L := by
          rw [← hcar, carry, if_neg]
          rintro ⟨h1, h2, h3⟩
          dsimp only at h1 h2 h3
          (omega)
        have HSj := HSg.tail
        clear HSg cq0 cq1 cp0 cp1 hcar
        have HT := Lib.hid hcar2
        have HLEN := Lib.hid (show L.length ≤ 146 by rw [← hcar2]; (simp only [List.length_cons, HM.out]; omega))
        clear hcar2
        refine Cop.region_ord (fun w' => Sep B w0 w' [.row g7 (prv (pl, px, pd)) 99, .row g (rgv b e (.slice (some ⟨gp, 0, none⟩) (m + 1) c)) 61]) 10 (.take 0 (.take 1 (.take 2 (.take 3 (.take 4 (.take 5 (.run 6 (.run 7 (.take 8 (.take 9 (.run 10 Cop.Ord.fin))))))))))) (by kernel_rfl) (by kernel_rfl) (fun _ _ d _ _ h => by cases d <;> exact h) ?_
        intro wf hdf
        replace HSj := HSj.keep hdf
        have HTf : Sep B w0 wf [.row g7 (prv (pl, px, pd)) 99, .row g (rgv b e (.slice (some ⟨gp, 0, none⟩) (m + 1) c)) 61] := HSj.sub (by repeat (first | exact List.nil_sublist _ | exact List.Sublist.refl _ | apply List.Sublist.cons_cons | apply List.Sublist.cons))
        (repeat (first | (refine Cop.og_skip rfl rfl HTf _ (by (simp only [Act.put, List.setIfInBounds_toArray, List.set_cons_succ, List.set_cons_zero]; rfl)) ?_) | (refine Cop.og_ld rfl rfl HTf 99 _ rfl (.pointer (some ⟨g7, 0, none⟩)) rfl _ (fun w9 h9 => load_row (h9.row 0 rfl) 99 Tryd.underlying99 rfl (prS hpd)) _ (by (simp only [Act.put, List.setIfInBounds_toArray, List.set_cons_succ, List.set_cons_zero]; rfl)) ?_) | (refine Cop.og_take rfl rfl HTf ?_; apply Exists.intro; refine ⟨fun w9 h9 => ?_, _, by (simp only [Act.put, List.setIfInBounds_toArray, List.set_cons_succ, List.set_cons_zero]; rfl), ?_⟩; (have c0 := rg_v h9 1 rfl; go_simp; with_reducible rfl))))
        refine Cop.og_run rfl rfl ?_
        refine ow_bs1 HSj 59 99 34 _ rfl (.agg (prv (pl, px, pd))) rfl (prv (pl, px, pd)).toList (.agg (prv (0, 0, Z32))) Tryd.underlying59 (by kernel_rfl) (by decide) (by decide) (fill_prt (pl, px, pd) hpd) (by rw [Array.length_toList, prv_size hpd]) ?_
        intro gb wg HSg
        have HTg : Sep B w0 wg [.row g7 (prv (pl, px, pd)) 99, .row g (rgv b e (.slice (some ⟨gp, 0, none⟩) (m + 1) c)) 61] := HSg.sub (by repeat (first | exact List.nil_sublist _ | exact List.Sublist.refl _ | apply List.Sublist.cons_cons | apply List.Sublist.cons))
        refine ⟨fun _ => HTg, ?_⟩
        refine Cop.og_run rfl rfl ?_
        refine ow_apn HSg 4 rfl _ _ 59 (.agg (prv (0, 0, Z32))) 48 rfl Tryd.underlying59 (by kernel_rfl) rfl (by decide) (by decide) (HSg.own 0 rfl).rd (fun c hc => (Array.all_eq_true_iff_forall_mem.1 (prv_one (pl, px, pd))) c (by simpa using hc)) rfl rfl L.length (rcs L) (by rw [← HT.out]; simp [HM.out]) (by rw [← HT.out]; rfl) (by have := HLEN.out; omega) ?_
        intro v9 wh HSh hgr
        obtain ⟨A9, c9, rfl, _⟩ := (HSh.own 4 rfl).sl
        have HTh : Sep B w0 wh [.row g7 (prv (pl, px, pd)) 99, .row g (rgv b e (.slice (some ⟨gp, 0, none⟩) (m + 1) c)) 61] := HSh.sub (by repeat (first | exact List.nil_sublist _ | exact List.Sublist.refl _ | apply List.Sublist.cons_cons | apply List.Sublist.cons))
        refine ⟨fun _ => HTh, ?_⟩
        (repeat (first | (refine Cop.og_skip rfl rfl HTh _ (by (simp only [Act.put, List.setIfInBounds_toArray, List.set_cons_succ, List.set_cons_zero]; rfl)) ?_) | (refine Cop.og_take rfl rfl HTh ?_; apply Exists.intro; refine ⟨fun w9 h9 => ?_, _, by (simp only [Act.put, List.setIfInBounds_toArray, List.set_cons_succ, List.set_cons_zero]; rfl), ?_⟩; (go_simp; with_reducible rfl))))
        refine Cop.og_run rfl rfl ?_
        refine ow_rv HSh 3 rfl 59 _ _ rfl (by kernel_rfl) rfl rfl rfl rfl ?_
        intro wi HSi
        refine ⟨fun h => absurd rfl h, ?_⟩
        refine og_fin ?_
        clear HTf HTg HTh HSj HSg HSh
        go_wp2
        refine Cop.region_ord (fun w' => Sep B w0 w' (.row g (rgv b e (.slice A9 L.length c9)) 61 :: .own (.slice A9 L.length c9) 99 34 L.length (rcs L) :: R)) 11 (.take 0 (.take 1 (.take 2 (.take 3 (.take 4 (.take 5 (.take 6 (.take 7 (.take 8 (.take 9 (.take 10 (.run 11 Cop.Ord.fin)))))))))))) (by kernel_rfl) (by kernel_rfl) (fun _ _ d _ _ h => by cases d <;> exact h) ?_
        intro wk hdk
        have HSk := (HSi.keep hdk).sub (show List.Sublist (.row g (rgv b e (.slice A9 L.length c9)) 61 :: .own (.slice A9 L.length c9) 99 34 L.length (rcs L) :: R) _ from ((List.Sublist.refl R |>.cons_cons _ |>.cons_cons _ |>.cons _ |>.cons _ |>.cons _)))
        (repeat (first | (refine Cop.og_skip rfl rfl HSk _ (by (simp only [Act.put, List.setIfInBounds_toArray, List.set_cons_succ, List.set_cons_zero]; rfl)) ?_) | (refine Cop.og_take rfl rfl HSk ?_; apply Exists.intro; refine ⟨fun w9 h9 => ?_, _, by (simp only [Act.put, List.setIfInBounds_toArray, List.set_cons_succ, List.set_cons_zero]; rfl), ?_⟩; (have c0 := rg_e h9 0 rfl; have q0 := HPI.out; have q1 := HPW.out; have q2 := HPE.out; go_simp; with_reducible rfl))))
        refine Cop.og_run rfl rfl ?_
        refine ow_re HSk 0 rfl 3 _ _ rfl (by kernel_rfl) rfl rfl ?_
        intro wl HSl
        refine ⟨fun h => absurd rfl h, ?_⟩
        refine og_fin ?_
        clear HSi HSk
        go_wp2
        go_ret
        exact ⟨rfl, _, HSl⟩
      ·
        rename_i hbrk K9 a9
        have hcar2 : (pl, px, pd) :: (ql, qx, qd) :: s = L := by
          rw [← hcar, carry, if_neg]
          rintro ⟨h1, h2, h3⟩
          dsimp only at h1 h2 h3
          (omega)
        have HSj := HSg.tail
        clear HSg cq0 cq1 cp0 cp1 hcar
        have HT := Lib.hid hcar2
        have HLEN := Lib.hid (show L.length ≤ 146 by rw [← hcar2]; (simp only [List.length_cons, HM.out]; omega))
        clear hcar2
        refine Cop.region_ord (fun w' => Sep B w0 w' [.row g7 (prv (pl, px, pd)) 99, .row g (rgv b e (.slice (some ⟨gp, 0, none⟩) (m + 1) c)) 61]) 10 (.take 0 (.take 1 (.take 2 (.take 3 (.take 4 (.take 5 (.run 6 (.run 7 (.take 8 (.take 9 (.run 10 Cop.Ord.fin))))))))))) (by kernel_rfl) (by kernel_rfl) (fun _ _ d _ _ h => by cases d <;> exact h) ?_
        intro wf hdf
        replace HSj := HSj.keep hdf
        have HTf : Sep B w0 wf [.row g7 (prv (pl, px, pd)) 99, .row g (rgv b e (.slice (some ⟨gp, 0, none⟩) (m + 1) c)) 61] := HSj.sub (by repeat (first | exact List.nil_sublist _ | exact List.Sublist.refl _ | apply List.Sublist.cons_cons | apply List.Sublist.cons))
        (repeat (first | (refine Cop.og_skip rfl rfl HTf _ (by (simp only [Act.put, List.setIfInBounds_toArray, List.set_cons_succ, List.set_cons_zero]; rfl)) ?_) | (refine Cop.og_ld rfl rfl HTf 99 _ rfl (.pointer (some ⟨g7, 0, none⟩)) rfl _ (fun w9 h9 => load_row (h9.row 0 rfl) 99 Tryd.underlying99 rfl (prS hpd)) _ (by (simp only [Act.put, List.setIfInBounds_toArray, List.set_cons_succ, List.set_cons_zero]; rfl)) ?_) | (refine Cop.og_take rfl rfl HTf ?_; apply Exists.intro; refine ⟨fun w9 h9 => ?_, _, by (simp only [Act.put, List.setIfInBounds_toArray, List.set_cons_succ, List.set_cons_zero]; rfl), ?_⟩; (have c0 := rg_v h9 1 rfl; go_simp; with_reducible rfl))))
        refine Cop.og_run rfl rfl ?_
        refine ow_bs1 HSj 59 99 34 _ rfl (.agg (prv (pl, px, pd))) rfl (prv (pl, px, pd)).toList (.agg (prv (0, 0, Z32))) Tryd.underlying59 (by kernel_rfl) (by decide) (by decide) (fill_prt (pl, px, pd) hpd) (by rw [Array.length_toList, prv_size hpd]) ?_
        intro gb wg HSg
        have HTg : Sep B w0 wg [.row g7 (prv (pl, px, pd)) 99, .row g (rgv b e (.slice (some ⟨gp, 0, none⟩) (m + 1) c)) 61] := HSg.sub (by repeat (first | exact List.nil_sublist _ | exact List.Sublist.refl _ | apply List.Sublist.cons_cons | apply List.Sublist.cons))
        refine ⟨fun _ => HTg, ?_⟩
        refine Cop.og_run rfl rfl ?_
        refine ow_apn HSg 4 rfl _ _ 59 (.agg (prv (0, 0, Z32))) 48 rfl Tryd.underlying59 (by kernel_rfl) rfl (by decide) (by decide) (HSg.own 0 rfl).rd (fun c hc => (Array.all_eq_true_iff_forall_mem.1 (prv_one (pl, px, pd))) c (by simpa using hc)) rfl rfl L.length (rcs L) (by rw [← HT.out]; simp [HM.out]) (by rw [← HT.out]; rfl) (by have := HLEN.out; omega) ?_
        intro v9 wh HSh hgr
        obtain ⟨A9, c9, rfl, _⟩ := (HSh.own 4 rfl).sl
        have HTh : Sep B w0 wh [.row g7 (prv (pl, px, pd)) 99, .row g (rgv b e (.slice (some ⟨gp, 0, none⟩) (m + 1) c)) 61] := HSh.sub (by repeat (first | exact List.nil_sublist _ | exact List.Sublist.refl _ | apply List.Sublist.cons_cons | apply List.Sublist.cons))
        refine ⟨fun _ => HTh, ?_⟩
        (repeat (first | (refine Cop.og_skip rfl rfl HTh _ (by (simp only [Act.put, List.setIfInBounds_toArray, List.set_cons_succ, List.set_cons_zero]; rfl)) ?_) | (refine Cop.og_take rfl rfl HTh ?_; apply Exists.intro; refine ⟨fun w9 h9 => ?_, _, by (simp only [Act.put, List.setIfInBounds_toArray, List.set_cons_succ, List.set_cons_zero]; rfl), ?_⟩; (go_simp; with_reducible rfl))))
        refine Cop.og_run rfl rfl ?_
        refine ow_rv HSh 3 rfl 59 _ _ rfl (by kernel_rfl) rfl rfl rfl rfl ?_
        intro wi HSi
        refine ⟨fun h => absurd rfl h, ?_⟩
        refine og_fin ?_
        clear HTf HTg HTh HSj HSg HSh
        go_wp2
        refine Cop.region_ord (fun w' => Sep B w0 w' (.row g (rgv b e (.slice A9 L.length c9)) 61 :: .own (.slice A9 L.length c9) 99 34 L.length (rcs L) :: R)) 11 (.take 0 (.take 1 (.take 2 (.take 3 (.take 4 (.take 5 (.take 6 (.take 7 (.take 8 (.take 9 (.take 10 (.run 11 Cop.Ord.fin)))))))))))) (by kernel_rfl) (by kernel_rfl) (fun _ _ d _ _ h => by cases d <;> exact h) ?_
        intro wk hdk
        have HSk := (HSi.keep hdk).sub (show List.Sublist (.row g (rgv b e (.slice A9 L.length c9)) 61 :: .own (.slice A9 L.length c9) 99 34 L.length (rcs L) :: R) _ from ((List.Sublist.refl R |>.cons_cons _ |>.cons_cons _ |>.cons _ |>.cons _ |>.cons _)))
        (repeat (first | (refine Cop.og_skip rfl rfl HSk _ (by (simp only [Act.put, List.setIfInBounds_toArray, List.set_cons_succ, List.set_cons_zero]; rfl)) ?_) | (refine Cop.og_take rfl rfl HSk ?_; apply Exists.intro; refine ⟨fun w9 h9 => ?_, _, by (simp only [Act.put, List.setIfInBounds_toArray, List.set_cons_succ, List.set_cons_zero]; rfl), ?_⟩; (have c0 := rg_e h9 0 rfl; have q0 := HPI.out; have q1 := HPW.out; have q2 := HPE.out; go_simp; with_reducible rfl))))
        refine Cop.og_run rfl rfl ?_
        refine ow_re HSk 0 rfl 3 _ _ rfl (by kernel_rfl) rfl rfl ?_
        intro wl HSl
        refine ⟨fun h => absurd rfl h, ?_⟩
        refine og_fin ?_
        clear HSi HSk
        go_wp2
        go_ret
        exact ⟨rfl, _, HSl⟩
end Go.Proofs.YtlhebogbbkjahaaDoor
namespace Go.Proofs.YtlhebogbbkjahaaDoor
open Go.RowKit Cop
set_option linter.unusedVariables false
set_option linter.unusedSimpArgs false
/-- What a level's test comes to. -/
theorem lv_test {a n j : Nat} (hn : 1 ≤ n) (hj : j ≤ lv a n) : (j < lv a n → j < 48 ∧ a % (2 * 2 ^ j) = 0 ∧ 2 * 2 ^ j ≤ n) ∧ (j = lv a n → j < 48 → ¬ (a % (2 * 2 ^ j) = 0 ∧ 2 * 2 ^ j ≤ n)) := by
  have hp : 2 ^ (j + 1) = 2 * 2 ^ j := by rw [Nat.pow_succ, Nat.mul_comm]
  refine ⟨fun h => ⟨by have := lv_le a n; omega, ?_, ?_⟩, fun h h48 hc => ?_⟩
  · rw [← hp]; exact mod_pow_le (lv_dvd a n) (by omega)
  · rw [← hp]; exact Nat.le_trans (Nat.pow_le_pow_right (by decide) (by omega)) (lv_pow a hn)
  · rw [← hp] at hc
    exact lv_max a n (j := j + 1) (by omega) (by omega) hc
theorem and_mod2 (a j : Nat) (hj : j < 48) (ha : a ≤ 281474976710656) : bits .and .i64 (a : Int) (2 * ((2 ^ j : Nat) : Int) - 1) = ((a % (2 * 2 ^ j) : Nat) : Int) := by
  have h := and_mod a (j + 1) (by omega) ha
  rw [Nat.pow_succ, Nat.mul_comm (2 ^ j) 2] at h
  rw [← h]
  simp
theorem pow48 {j : Nat} (h : j ≤ 48) : 2 ^ j ≤ 281474976710656 := Nat.le_trans (Nat.pow_le_pow_right (by decide) h) (by decide)
set_option maxRecDepth 100000 in
set_option maxHeartbeats 8000000 in
theorem nodes_a (b e : Nat) (w : World) (hbe : b ≤ e) (he : e ≤ 281474976710656) :
    Calls Tryd.prog 50 #[.agg #[.int .i64 b, .int .i64 e]] w fun r w' => ∃ v, r = .returned v ∧ Below w.heap.size w w' ∧ Ow w' w.heap.size 31 2 v (partsP b e).length (scs (partsP b e)) := by
  have hlen := (bes_all hbe he).2
  have HS0 := Sep.start w
  obtain ⟨L, hL⟩ : ∃ L, partsP b e = L := ⟨_, rfl⟩
  have HL := Lib.hid hL
  rw [hL] at hlen ⊢
  have heb : (e : Int) ≤ 281474976710656 := by omega
  clear hL
  go_enter Tryd.func50, Tryd.ntmps50
  go_wp2_with (first | refine wl_bx HS0 rfl 26 _ rfl #[.int .i64 (b : Int), .int .i64 (e : Int)] rfl ?_)
  intro g1 w1 HS1
  have c0 := (row_cell (HS1.row 0 rfl) 0).trans (show (#[Value.int .i64 (b : Int), .int .i64 (e : Int)] : Array Value)[0]? = some (.int .i64 (b : Int)) from rfl)
  have HSn := Sep.ownNil HS1 31 2
  clear HS0 HS1
  go_wp2
  clear c0
  go_loopw [3, 4] (fun s3 s4 wr => ∃ (a : Nat) (dn : List (Nat × Nat)) (A : Option Addr) (c : Nat), s3 = .slice A dn.length c ∧ s4 = .int .i64 a ∧ a ≤ e ∧ Hid (dn ++ partsP a e = L) ∧ Sep w.heap.size w wr [.own (.slice A dn.length c) 31 2 dn.length (scs dn), .row g1 #[.int .i64 (b : Int), .int .i64 (e : Int)] 26]) (fun _ s4 _ => (e : Nat) - (intOf s4).toNat)
  case atStart => exact ⟨b, [], none, 0, rfl, rfl, hbe, Lib.hid (by rw [← HL.out]; rfl), HSn⟩
  case round =>
    clear HSn
    obtain ⟨a, dn, A4, c4, rfl, rfl, hae, HW, HSi⟩ := hrel
    have c1 := (row_cell (HSi.row 1 rfl) 1).trans (show (#[Value.int .i64 (b : Int), .int .i64 (e : Int)] : Array Value)[1]? = some (.int .i64 (e : Int)) from rfl)
    by_cases hlt : a < e
    · have hlt' : (a : Int) < (e : Int) := by omega
      have hw := HW.out
      rw [partsP_cons hlt] at hw
      obtain ⟨n, hn⟩ : ∃ n, e - a = n := ⟨_, rfl⟩
      rw [hn] at hw
      have hn1 : 1 ≤ n := by omega
      have HTST := Lib.hid (fun j (hj : j ≤ lv a n) => lv_test hn1 hj)
      have HAM := Lib.hid (fun j (hj : j < 48) => and_mod2 a j hj (by omega))
      have hlp := lv_pow a (n := n) (by omega)
      have hl48 := lv_le a n
      obtain ⟨lvl, hlvl⟩ : ∃ l, lv a n = l := ⟨_, rfl⟩
      rw [hlvl] at hw hlp hl48 HTST
      have hdn : dn.length + 1 ≤ 96 := by have := congrArg List.length hw; simp only [List.length_append, List.length_cons] at this; omega
      have HWX := Lib.hid hw
      obtain ⟨P2, hP2⟩ : ∃ p, (2 ^ lvl : Nat) = p := ⟨_, rfl⟩
      rw [hP2] at HWX hlp
      have hpb : P2 ≤ 281474976710656 := by omega
      have HPI := Lib.hid (show ((2 : Int) ^ lvl) = (P2 : Int) by rw [← hP2]; simp)
      have HNE := Lib.hid (show a + P2 ≤ e ∧ 0 < P2 from ⟨by omega, by rw [← hP2]; exact Nat.pow_pos (by decide)⟩)
      have HQ4 := Lib.hid (show IntKind.i64.wrap ((e : Int) - (a : Int)) = (n : Int) by rw [IntKind.wrap_i64]; omega)
      have HNI := Lib.hid (show (n : Int) ≤ 281474976710656 by omega)
      clear hlvl hw hP2 hlp hn hn1 c1
      have c1 := (row_cell (HSi.row 1 rfl) 1).trans (show (#[Value.int .i64 (b : Int), .int .i64 (e : Int)] : Array Value)[1]? = some (.int .i64 (e : Int)) from rfl)
      go_wp2
      clear c1
      go_loopw [5] (fun s5 wr2 => ∃ j : Nat, s5 = .int .i64 (j : Int) ∧ j ≤ lvl ∧ Sep w.heap.size w wr2 [.own (.slice A4 dn.length c4) 31 2 dn.length (scs dn), .row g1 #[.int .i64 (b : Int), .int .i64 (e : Int)] 26]) (fun s5 _ => 48 - (intOf s5).toNat)
      case atStart => exact ⟨0, rfl, by omega, HSi⟩
      case round =>
        clear HSi
        obtain ⟨j, rfl, hjl, HSj⟩ := hrel
        have ht := HTST.out j hjl
        have HAJ := Lib.hid (HAM.out j)
        obtain ⟨Q, hQ⟩ : ∃ q, (2 ^ j : Nat) = q := ⟨_, rfl⟩
        have hQ48 : Q ≤ 281474976710656 := by rw [← hQ]; exact pow48 (by omega)
        have HQ0 := Lib.hid (show ((2 : Int) ^ j) = (Q : Int) by rw [← hQ]; simp)
        rw [hQ] at ht HAJ
        obtain ⟨P, hP⟩ : ∃ p, 2 * Q = p := ⟨_, rfl⟩
        rw [hP] at ht HAJ
        have HAJ2 := Lib.hid (fun hj => show bits .and .i64 (a : Int) ((P : Int) - 1) = ((a % P : Nat) : Int) from by
          rw [← HAJ.out hj, ← hP]; simp)
        have HQ1 := Lib.hid (show IntKind.i64.wrap (2 * (Q : Int)) = (P : Int) by rw [IntKind.wrap_i64]; omega)
        have HQ2 := Lib.hid (show IntKind.i64.wrap ((P : Int) - 1) = (P : Int) - 1 by rw [IntKind.wrap_i64]; omega)
        have HQ3 := Lib.hid (show IntKind.i64.wrap (P : Int) = (P : Int) by rw [IntKind.wrap_i64]; omega)
        clear hQ hP HAJ
        by_cases hj : j < lvl
        · obtain ⟨t1, t2, t3⟩ := ht.1 hj
          have HC2 := Lib.hid (show bits .and .i64 (a : Int) ((P : Int) - 1) = 0 by rw [HAJ2.out t1, t2]; rfl)
          have HC3 := Lib.hid (show decide (P ≤ n) = true from decide_eq_true (by omega))
          have h48 : (j : Int) < 48 := by omega
          clear ht t1 t2 t3
          go_wp2
          refine Cop.region_ord (fun w' => Sep w.heap.size w w' [.own (.slice A4 dn.length c4) 31 2 dn.length (scs dn), .row g1 #[.int .i64 (b : Int), .int .i64 (e : Int)] 26]) 18 (.take 0 (.take 1 (.take 2 (.take 3 (.take 4 (.take 5 (.take 6 (.take 7 (.take 8 (.take 9 (.take 10 (.take 11 (.take 12 (.take 13 (.take 14 (.take 15 (.take 16 (.take 17 (.take 18 Cop.Ord.fin))))))))))))))))))) (by kernel_rfl) (by kernel_rfl) (fun _ _ d _ _ h => by cases d <;> exact h) ?_
          intro wx hdx
          have HSx := HSj.keep hdx
          clear HSj
          (repeat (first | (refine Cop.og_skip rfl rfl HSx _ (by (simp only [Act.put, List.setIfInBounds_toArray, List.set_cons_succ, List.set_cons_zero]; rfl)) ?_) | (refine Cop.og_take rfl rfl HSx ?_; apply Exists.intro; refine ⟨fun w9 h9 => ?_, _, by (simp only [Act.put, List.setIfInBounds_toArray, List.set_cons_succ, List.set_cons_zero]; rfl), ?_⟩; (have c1 := (row_cell (h9.row 1 rfl) 1).trans (show (#[Value.int .i64 (b : Int), .int .i64 (e : Int)] : Array Value)[1]? = some (.int .i64 (e : Int)) from rfl); have q0 := HQ0.out; have q1 := HQ1.out; have q2 := HQ2.out; have q3 := HQ3.out; have q4 := HQ4.out; have q5 := HC2.out; have q6 := HC3.out; go_simp; with_reducible rfl))))
          refine og_fin ?_
          go_wp2
          go_roundw
          case rel => exact ⟨j + 1, by go_num, by omega, HSx⟩
          case measure => simp [intOf]; omega
        · have hjl2 : lvl = j := by omega
          subst hjl2
          have ht2 := ht.2 rfl
          clear ht hj hjl
          have hpi := HPI.out
          by_cases h48 : lvl < 48
          · have h48' : (lvl : Int) < 48 := by omega
            by_cases hr : a % P = 0
            · have hPn : ¬ P ≤ n := fun h => ht2 h48 ⟨hr, h⟩
              have HC2 := Lib.hid (show bits .and .i64 (a : Int) ((P : Int) - 1) = 0 by rw [HAJ2.out h48, hr]; rfl)
              have HC3 := Lib.hid (show decide (P ≤ n) = false from decide_eq_false (by omega))
              clear ht2 hPn hr hpi
              go_wp2
              refine Cop.region_ord (fun w' => Sep w.heap.size w w' [.own (.slice A4 dn.length c4) 31 2 dn.length (scs dn), .row g1 #[.int .i64 (b : Int), .int .i64 (e : Int)] 26]) 18 (.take 0 (.take 1 (.take 2 (.take 3 (.take 4 (.take 5 (.take 6 (.take 7 (.take 8 (.take 9 (.take 10 (.take 11 (.take 12 (.take 13 (.take 14 (.take 15 (.take 16 (.take 17 (.take 18 Cop.Ord.fin))))))))))))))))))) (by kernel_rfl) (by kernel_rfl) (fun _ _ d _ _ h => by cases d <;> exact h) ?_
              intro wx hdx
              have HSx := HSj.keep hdx
              clear HSj
              (repeat (first | (refine Cop.og_skip rfl rfl HSx _ (by (simp only [Act.put, List.setIfInBounds_toArray, List.set_cons_succ, List.set_cons_zero]; rfl)) ?_) | (refine Cop.og_take rfl rfl HSx ?_; apply Exists.intro; refine ⟨fun w9 h9 => ?_, _, by (simp only [Act.put, List.setIfInBounds_toArray, List.set_cons_succ, List.set_cons_zero]; rfl), ?_⟩; (have c1 := (row_cell (h9.row 1 rfl) 1).trans (show (#[Value.int .i64 (b : Int), .int .i64 (e : Int)] : Array Value)[1]? = some (.int .i64 (e : Int)) from rfl); have q0 := HQ0.out; have q1 := HQ1.out; have q2 := HQ2.out; have q3 := HQ3.out; have q4 := HQ4.out; have q5 := HC2.out; have q6 := HC3.out; go_simp; with_reducible rfl))))
              refine og_fin ?_
              have hpi := HPI.out
              go_wp2_with (first | refine wl_bs HSx rfl 112 31 1 2 _ rfl (scs [(lvl, a / P2)]) _ Tryd.underlying112 span_info (by decide) (by decide) (by kernel_rfl) rfl ?_)
              intro g8 w8 HS8
              go_wp2_with (first | refine wl_apn HS8 1 rfl _ _ 112 _ 16 rfl rfl Tryd.underlying112 span_info3 rfl (by decide) (by decide) (HS8.own 0 rfl).rd (scs_one _) rfl rfl (dn.length + 1) (scs (dn ++ [(lvl, a / P2)])) rfl (by rw [scs_append]) (by omega) ?_)
              intro v9 w9 HS9 _
              obtain ⟨A9, c9, rfl, _⟩ := (HS9.own 1 rfl).sl
              have HSk := HS9.tail
              clear HS8 HS9
              go_wp2
              go_roundw
              case rel => exact ⟨a + P2, dn ++ [(lvl, a / P2)], A9, c9, by rw [List.length_append]; rfl, by go_num, HNE.out.1, Lib.hid (by rw [← HWX.out]; simp), by simpa using HSk⟩
              case measure => have := HNE.out; simp [intOf]; omega
            · obtain ⟨r, hr2⟩ : ∃ r, a % P = r := ⟨_, rfl⟩
              rw [hr2] at hr
              have HC2 := Lib.hid (show bits .and .i64 (a : Int) ((P : Int) - 1) = (r : Int) by rw [HAJ2.out h48, hr2])
              have HC3 := Lib.hid (show ((r : Int) == 0) = false by rw [beq_eq_false_iff_ne]; omega)
              clear ht2 hr2 hr hpi
              go_wp2
              refine Cop.region_ord (fun w' => Sep w.heap.size w w' [.own (.slice A4 dn.length c4) 31 2 dn.length (scs dn), .row g1 #[.int .i64 (b : Int), .int .i64 (e : Int)] 26]) 18 (.take 0 (.take 1 (.take 2 (.take 3 (.take 4 (.take 5 (.take 6 (.take 7 (.take 8 (.take 9 (.take 10 (.take 11 (.take 12 (.take 13 (.take 14 (.take 15 (.take 16 (.take 17 (.take 18 Cop.Ord.fin))))))))))))))))))) (by kernel_rfl) (by kernel_rfl) (fun _ _ d _ _ h => by cases d <;> exact h) ?_
              intro wx hdx
              have HSx := HSj.keep hdx
              clear HSj
              (repeat (first | (refine Cop.og_skip rfl rfl HSx _ (by (simp only [Act.put, List.setIfInBounds_toArray, List.set_cons_succ, List.set_cons_zero]; rfl)) ?_) | (refine Cop.og_take rfl rfl HSx ?_; apply Exists.intro; refine ⟨fun w9 h9 => ?_, _, by (simp only [Act.put, List.setIfInBounds_toArray, List.set_cons_succ, List.set_cons_zero]; rfl), ?_⟩; (have c1 := (row_cell (h9.row 1 rfl) 1).trans (show (#[Value.int .i64 (b : Int), .int .i64 (e : Int)] : Array Value)[1]? = some (.int .i64 (e : Int)) from rfl); have q0 := HQ0.out; have q1 := HQ1.out; have q2 := HQ2.out; have q3 := HQ3.out; have q4 := HQ4.out; have q5 := HC2.out; have q6 := HC3.out; go_simp; with_reducible rfl))))
              refine og_fin ?_
              have hpi := HPI.out
              go_wp2_with (first | refine wl_bs HSx rfl 112 31 1 2 _ rfl (scs [(lvl, a / P2)]) _ Tryd.underlying112 span_info (by decide) (by decide) (by kernel_rfl) rfl ?_)
              intro g8 w8 HS8
              go_wp2_with (first | refine wl_apn HS8 1 rfl _ _ 112 _ 16 rfl rfl Tryd.underlying112 span_info3 rfl (by decide) (by decide) (HS8.own 0 rfl).rd (scs_one _) rfl rfl (dn.length + 1) (scs (dn ++ [(lvl, a / P2)])) rfl (by rw [scs_append]) (by omega) ?_)
              intro v9 w9 HS9 _
              obtain ⟨A9, c9, rfl, _⟩ := (HS9.own 1 rfl).sl
              have HSk := HS9.tail
              clear HS8 HS9
              go_wp2
              go_roundw
              case rel => exact ⟨a + P2, dn ++ [(lvl, a / P2)], A9, c9, by rw [List.length_append]; rfl, by go_num, HNE.out.1, Lib.hid (by rw [← HWX.out]; simp), by simpa using HSk⟩
              case measure => have := HNE.out; simp [intOf]; omega
          · have h48' : ¬ (lvl : Int) < 48 := by omega
            have HC2 := Lib.hid (show decide ((lvl : Int) < 48) = false from decide_eq_false h48')
            clear ht2 hpi
            go_wp2
            refine Cop.region_ord (fun w' => Sep w.heap.size w w' [.own (.slice A4 dn.length c4) 31 2 dn.length (scs dn), .row g1 #[.int .i64 (b : Int), .int .i64 (e : Int)] 26]) 18 (.take 0 (.take 1 (.take 2 (.take 3 (.take 4 (.take 5 (.take 6 (.take 7 (.take 8 (.take 9 (.take 10 (.take 11 (.take 12 (.take 13 (.take 14 (.take 15 (.take 16 (.take 17 (.take 18 Cop.Ord.fin))))))))))))))))))) (by kernel_rfl) (by kernel_rfl) (fun _ _ d _ _ h => by cases d <;> exact h) ?_
            intro wx hdx
            have HSx := HSj.keep hdx
            clear HSj
            (repeat (first | (refine Cop.og_skip rfl rfl HSx _ (by (simp only [Act.put, List.setIfInBounds_toArray, List.set_cons_succ, List.set_cons_zero]; rfl)) ?_) | (refine Cop.og_take rfl rfl HSx ?_; apply Exists.intro; refine ⟨fun w9 h9 => ?_, _, by (simp only [Act.put, List.setIfInBounds_toArray, List.set_cons_succ, List.set_cons_zero]; rfl), ?_⟩; (have c1 := (row_cell (h9.row 1 rfl) 1).trans (show (#[Value.int .i64 (b : Int), .int .i64 (e : Int)] : Array Value)[1]? = some (.int .i64 (e : Int)) from rfl); have q0 := HQ0.out; have q1 := HQ1.out; have q2 := HQ2.out; have q3 := HQ3.out; have q4 := HQ4.out; have q5 := HC2.out; have q6 := HC2.out; go_simp; with_reducible rfl))))
            refine og_fin ?_
            have hpi := HPI.out
            go_wp2_with (first | refine wl_bs HSx rfl 112 31 1 2 _ rfl (scs [(lvl, a / P2)]) _ Tryd.underlying112 span_info (by decide) (by decide) (by kernel_rfl) rfl ?_)
            intro g8 w8 HS8
            go_wp2_with (first | refine wl_apn HS8 1 rfl _ _ 112 _ 16 rfl rfl Tryd.underlying112 span_info3 rfl (by decide) (by decide) (HS8.own 0 rfl).rd (scs_one _) rfl rfl (dn.length + 1) (scs (dn ++ [(lvl, a / P2)])) rfl (by rw [scs_append]) (by omega) ?_)
            intro v9 w9 HS9 _
            obtain ⟨A9, c9, rfl, _⟩ := (HS9.own 1 rfl).sl
            have HSk := HS9.tail
            clear HS8 HS9
            go_wp2
            go_roundw
            case rel => exact ⟨a + P2, dn ++ [(lvl, a / P2)], A9, c9, by rw [List.length_append]; rfl, by go_num, HNE.out.1, Lib.hid (by rw [← HWX.out]; simp), by simpa using HSk⟩
            case measure => have := HNE.out; simp [intOf]; omega
    · have hae2 : a = e := by omega
      subst hae2
      have he2 : dn = L := by have := HW.out; rwa [partsP_nil (by omega), List.append_nil] at this
      subst he2
      go_wp2
      go_ret
      exact ⟨_, rfl, HSi.hb, HSi.own 0 rfl⟩
end Go.Proofs.YtlhebogbbkjahaaDoor
