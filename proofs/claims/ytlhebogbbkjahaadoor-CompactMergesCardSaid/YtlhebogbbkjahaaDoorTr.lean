/- The plain laws of trees: the greatest power of two below a number, roots by peaks, proofs; lists and numbers alone. -/
import Derived.WalkKit
import Derived.Lib.BitFns
set_option linter.unusedVariables false
namespace Cop

/-- The greatest power of two below n (n at least 2). -/
def hf (n : Nat) : Nat := 2 ^ Nat.log2 (n - 1)

theorem hf_pos (n : Nat) : 0 < hf n := Nat.pow_pos (by decide)

theorem hf_lt {n : Nat} (h : 2 ≤ n) : hf n < n := by
  have := Nat.log2_self_le (n := n - 1) (by omega)
  unfold hf; omega

theorem hf_ge {n : Nat} (h : 2 ≤ n) : n ≤ 2 * hf n := by
  have := Nat.lt_log2_self (n := n - 1)
  unfold hf
  rw [Nat.pow_succ] at this
  omega

theorem hf_eq {n j : Nat} (h : 2 ^ j < n) (h2 : n ≤ 2 ^ (j + 1)) : hf n = 2 ^ j := by
  unfold hf
  congr 1
  have h0 : n - 1 ≠ 0 := by have : 0 < 2 ^ j := Nat.pow_pos (by decide); omega
  rw [Nat.log2_eq_iff h0]
  omega

theorem hf_two (j : Nat) : hf (2 ^ (j + 1)) = 2 ^ j :=
  hf_eq (by rw [Nat.pow_succ]; have : 0 < 2 ^ j := Nat.pow_pos (by decide); omega) (Nat.le_refl _)

section
variable {D : Type} (nd : D → D → D) (em : D)

/-- The root of a tree's leaves. -/
def root (l : List D) : D :=
  match h : l with
  | [] => em
  | [d] => d
  | a :: b :: r =>
    nd (root (l.take (hf l.length))) (root (l.drop (hf l.length)))
termination_by l.length
decreasing_by
  all_goals
    have h1 := hf_lt (n := l.length) (by subst h; simp)
    have h2 := hf_pos l.length
    have h3 : l.length = r.length + 2 := by subst h; simp
    simp only [List.length_take, List.length_drop, List.length_cons] at *
    omega

theorem root_nil : root nd em [] = em := by rw [root]
theorem root_one (d : D) : root nd em [d] = d := by rw [root]
theorem root_split {l : List D} (h : 2 ≤ l.length) : root nd em l = nd (root nd em (l.take (hf l.length))) (root nd em (l.drop (hf l.length))) := by
  match l, h with
  | a :: b :: r, _ => rw [root]

/-! ### The peaks -/

/-- A peak laid on a stack of peaks (the last one first). -/
def pushPk : List (Nat × D) → Nat × D → List (Nat × D)
  | [], p => [p]
  | q :: s, p => if q.1 = p.1 then pushPk s (2 * p.1, nd q.2 p.2) else p :: q :: s

inductive Rep : List (Nat × D) → List D → Prop
  | nil : Rep [] []
  | cons {s : List (Nat × D)} {l seg : List D} (j : Nat) : Rep s l → seg.length = 2 ^ j → (∀ x ∈ s, ∃ i, j < i ∧ x.1 = 2 ^ i) → Rep ((2 ^ j, root nd em seg) :: s) (l ++ seg)

theorem root_join {a b : List D} (j : Nat) (ha : a.length = 2 ^ j) (h0 : 0 < b.length) (hb : b.length ≤ 2 ^ j) : root nd em (a ++ b) = nd (root nd em a) (root nd em b) := by
  have hp : 0 < 2 ^ j := Nat.pow_pos (by decide)
  have h : hf (a ++ b).length = 2 ^ j := hf_eq (by simp; omega) (by rw [Nat.pow_succ]; simp; omega)
  rw [root_split nd em (by simp; omega), h, ← ha]
  simp

theorem pow_inj {i j : Nat} (h : 2 ^ i = 2 ^ j) : i = j := (Nat.pow_right_inj (by decide)).1 h

theorem rep_push {s : List (Nat × D)} {l : List D} (h : Rep nd em s l) : ∀ (j : Nat) (seg : List D), seg.length = 2 ^ j → (∀ x ∈ s, ∃ i, j ≤ i ∧ x.1 = 2 ^ i) →
    Rep nd em (pushPk nd s (2 ^ j, root nd em seg)) (l ++ seg) := by
  induction h with
  | nil =>
    intro j seg hs _
    exact .cons j .nil hs (by simp)
  | @cons s l seg' i hr hl hi ih =>
    intro j seg hs hj
    simp only [pushPk]
    split
    · rename_i he
      have he : i = j := pow_inj he
      subst he
      have hp : 0 < 2 ^ i := Nat.pow_pos (by decide)
      have e1 : (2 * 2 ^ i, nd (root nd em seg') (root nd em seg)) = (2 ^ (i + 1), root nd em (seg' ++ seg)) := by
        rw [root_join nd em i hl (by omega) (by omega), Nat.pow_succ, Nat.mul_comm]
      rw [e1, List.append_assoc]
      exact ih (i + 1) _ (by simp [hl, hs, Nat.pow_succ]; omega) (fun x hx => by obtain ⟨q, h1, h2⟩ := hi x hx; exact ⟨q, h1, h2⟩)
    · rename_i he
      obtain ⟨q, h1, h2⟩ := hj _ (List.mem_cons_self ..)
      have hq : i = q := pow_inj h2
      subst hq
      have hlt : j < i := by
        rcases Nat.lt_or_ge j i with h | h
        · exact h
        · exact absurd (by rw [Nat.le_antisymm h1 h]) he
      refine .cons j (.cons i hr hl hi) hs ?_
      intro x hx
      rcases List.mem_cons.1 hx with rfl | hx
      · exact ⟨i, hlt, rfl⟩
      · obtain ⟨r, h3, h4⟩ := hi x hx
        exact ⟨r, by omega, h4⟩

/-- The peaks of leaves. -/
def peaks (l : List D) : List (Nat × D) := l.foldl (fun s d => pushPk nd s (1, d)) []

theorem rep_pow {s : List (Nat × D)} {l : List D} (h : Rep nd em s l) : ∀ x ∈ s, ∃ i, 0 ≤ i ∧ x.1 = 2 ^ i := by
  cases h with
  | nil => simp
  | cons j hr hl hi =>
    intro x hx
    rcases List.mem_cons.1 hx with rfl | hx
    · exact ⟨j, Nat.zero_le _, rfl⟩
    · obtain ⟨i, _, h⟩ := hi x hx; exact ⟨i, Nat.zero_le _, h⟩

theorem rep_foldl (l : List D) : ∀ (s : List (Nat × D)) (l0 : List D), Rep nd em s l0 → Rep nd em (l.foldl (fun s d => pushPk nd s (1, d)) s) (l0 ++ l) := by
  induction l with
  | nil => intro s l0 h; simpa using h
  | cons d l ih =>
    intro s l0 h
    have h1 := rep_push nd em h 0 [d] rfl (rep_pow nd em h)
    rw [root_one] at h1
    have := ih _ _ h1
    simpa using this

theorem rep_peaks (l : List D) : Rep nd em (peaks nd l) l := by
  have := rep_foldl nd em l [] [] .nil
  simpa [peaks] using this

theorem rep_fold {s : List (Nat × D)} {l : List D} (h : Rep nd em s l) : ∀ t : List D, 0 < t.length → (∀ x ∈ s, t.length ≤ x.1) →
    s.foldl (fun acc q => nd q.2 acc) (root nd em t) = root nd em (l ++ t) := by
  induction h with
  | nil => intro t _ _; simp
  | @cons s l seg j hr hl hi ih =>
    intro t h0 ht
    have h1 : t.length ≤ 2 ^ j := ht _ (List.mem_cons_self ..)
    simp only [List.foldl_cons]
    rw [← root_join nd em j hl h0 h1, List.append_assoc]
    refine ih (seg ++ t) (by simp; omega) ?_
    intro x hx
    obtain ⟨i, h2, h3⟩ := hi x hx
    have : 2 ^ (j + 1) ≤ 2 ^ i := Nat.pow_le_pow_right (by decide) h2
    rw [Nat.pow_succ] at this
    rw [h3]
    simp only [List.length_append]
    omega

/-- The last peak, folded with those ahead of it. -/
def foldPk : List (Nat × D) → D
  | [] => em
  | p :: s => s.foldl (fun acc q => nd q.2 acc) p.2

theorem foldPk_root (l : List D) : foldPk nd em (peaks nd l) = root nd em l := by
  have h := rep_peaks nd em l
  generalize peaks nd l = s at h
  cases h with
  | nil => simp [foldPk, root_nil]
  | @cons s l seg j hr hl hi =>
    simp only [foldPk]
    refine rep_fold nd em hr seg (by rw [hl]; exact Nat.pow_pos (by decide)) ?_
    intro x hx
    obtain ⟨i, h2, h3⟩ := hi x hx
    rw [hl, h3]
    exact Nat.pow_le_pow_right (by decide) (by omega)

/-! ### Proofs -/

/-- The way down to leaf i of n: at each step, does it lie in the first half? -/
def way (i n : Nat) : List Bool :=
  if h : n < 2 then [] else if i < hf n then true :: way i (hf n) else false :: way (i - hf n) (n - hf n)
termination_by n
decreasing_by
  · exact hf_lt (by omega)
  · have := hf_pos n; omega

theorem way_one {i n : Nat} (h : n < 2) : way i n = [] := by rw [way, dif_pos h]
theorem way_lt {i n : Nat} (h : 2 ≤ n) (hi : i < hf n) : way i n = true :: way i (hf n) := by rw [way, dif_neg (by omega), if_pos hi]
theorem way_ge {i n : Nat} (h : 2 ≤ n) (hi : ¬ i < hf n) : way i n = false :: way (i - hf n) (n - hf n) := by rw [way, dif_neg (by omega), if_neg hi]

/-- The inclusion proof of leaf i. -/
def tpath (l : List D) (i : Nat) : List D :=
  if h : l.length < 2 then [] else
    if i < hf l.length then tpath (l.take (hf l.length)) i ++ [root nd em (l.drop (hf l.length))]
    else tpath (l.drop (hf l.length)) (i - hf l.length) ++ [root nd em (l.take (hf l.length))]
termination_by l.length
decreasing_by
  all_goals
    have h1 := hf_lt (n := l.length) (by omega)
    have h2 := hf_pos l.length
    simp only [List.length_take, List.length_drop]
    omega

theorem tpath_one {l : List D} {i : Nat} (h : l.length < 2) : tpath nd em l i = [] := by rw [tpath, dif_pos h]
theorem tpath_lt {l : List D} {i : Nat} (h : 2 ≤ l.length) (hi : i < hf l.length) : tpath nd em l i = tpath nd em (l.take (hf l.length)) i ++ [root nd em (l.drop (hf l.length))] := by
  rw [tpath, dif_neg (by omega), if_pos hi]
theorem tpath_ge {l : List D} {i : Nat} (h : 2 ≤ l.length) (hi : ¬ i < hf l.length) : tpath nd em l i = tpath nd em (l.drop (hf l.length)) (i - hf l.length) ++ [root nd em (l.take (hf l.length))] := by
  rw [tpath, dif_neg (by omega), if_neg hi]

/-- Up from a leaf: turns told from the root down, a path from the leaf up. -/
def climb (leaf : D) : List Bool → List D → D
  | [], _ => leaf
  | t :: ts, p => match p.getLast? with
    | none => leaf
    | some x => if t then nd (climb leaf ts p.dropLast) x else nd x (climb leaf ts p.dropLast)

theorem climb_snoc (leaf : D) (t : Bool) (ts : List Bool) (p : List D) (x : D) : climb nd leaf (t :: ts) (p ++ [x]) = if t then nd (climb nd leaf ts p) x else nd x (climb nd leaf ts p) := by
  simp [climb]

/-- The same, a step at a time from the leaf. -/
theorem climb_fold (leaf : D) : ∀ (ts : List Bool) (p : List D), ts.length = p.length →
    climb nd leaf ts p = (ts.reverse.zip p).foldl (fun d q => if q.1 then nd d q.2 else nd q.2 d) leaf := by
  intro ts
  induction ts with
  | nil => intro p _; simp [climb]
  | cons t ts ih =>
    intro p hp
    rcases List.eq_nil_or_concat p with rfl | ⟨q, x, rfl⟩
    · simp at hp
    · rw [List.concat_eq_append] at hp ⊢
      have hq : ts.length = q.length := by simpa using hp
      rw [climb_snoc, ih q hq]
      rw [List.reverse_cons, List.zip_append (by simpa using hq)]
      simp only [List.zip_cons_cons, List.zip_nil_right, List.foldl_append, List.foldl_cons, List.foldl_nil]

theorem tpath_length (l : List D) : ∀ (n : Nat), l.length = n → ∀ i, (tpath nd em l i).length = (way i n).length := by
  intro n
  induction n using Nat.strongRecOn generalizing l with
  | ind n ih =>
    intro hl i
    rcases Nat.lt_or_ge n 2 with h | h
    · rw [tpath_one nd em (by omega), way_one h]; rfl
    · have h1 := hf_lt h
      have h2 := hf_pos n
      subst hl
      by_cases hi : i < hf l.length
      · rw [tpath_lt nd em h hi, way_lt h hi]
        simp only [List.length_append, List.length_cons, List.length_nil]
        rw [ih _ h1 (l.take (hf l.length)) (by simp; omega)]
      · rw [tpath_ge nd em h hi, way_ge h hi]
        simp only [List.length_append, List.length_cons, List.length_nil]
        rw [ih (l.length - hf l.length) (by omega) (l.drop (hf l.length)) (by simp)]

theorem climb_tpath : ∀ (n : Nat) (l : List D), l.length = n → ∀ (i : Nat) (x : D), l[i]? = some x → climb nd x (way i n) (tpath nd em l i) = root nd em l := by
  intro n
  induction n using Nat.strongRecOn with
  | ind n ih =>
    intro l hl i x hx
    have hin : i < l.length := (List.getElem?_eq_some_iff.1 hx).1
    rcases Nat.lt_or_ge n 2 with h | h
    · rw [way_one h]
      match l, hl, hin, hx with
      | [y], _, hin, hx =>
        have : i = 0 := by simpa using hin
        subst this
        simp at hx
        simp [climb, root_one, hx]
      | [], hl, hin, hx => simp at hin
      | a :: b :: r, hl, _, _ => simp at hl; omega
    · have h1 := hf_lt h
      have h2 := hf_pos n
      subst hl
      rw [root_split nd em h]
      by_cases hi : i < hf l.length
      · rw [tpath_lt nd em h hi, way_lt h hi, climb_snoc]
        simp only [if_true]
        rw [ih _ h1 (l.take (hf l.length)) (by simp; omega) i x (by rw [List.getElem?_take, if_pos hi]; exact hx)]
      · rw [tpath_ge nd em h hi, way_ge h hi, climb_snoc]
        simp only [Bool.false_eq_true, if_false]
        rw [ih (l.length - hf l.length) (by omega) (l.drop (hf l.length)) (by simp) (i - hf l.length) x (by rw [List.getElem?_drop]; rw [show hf l.length + (i - hf l.length) = i from by omega]; exact hx)]

/-- The steps down to the part that ends at m; does it begin at the leaf 0? -/
def steps (m n : Nat) : List Bool × Bool :=
  if h : n < 2 ∨ m = n then ([], true) else
    if m ≤ hf n then (true :: (steps m (hf n)).1, (steps m (hf n)).2) else (false :: (steps (m - hf n) (n - hf n)).1, false)
termination_by n
decreasing_by
  all_goals
    have h1 := hf_lt (n := n) (by omega)
    have h2 := hf_pos n
    omega

theorem steps_end {m n : Nat} (h : n < 2 ∨ m = n) : steps m n = ([], true) := by rw [steps, dif_pos h]
theorem steps_le {m n : Nat} (h : 2 ≤ n) (hm : m ≠ n) (hi : m ≤ hf n) : steps m n = (true :: (steps m (hf n)).1, (steps m (hf n)).2) := by
  rw [steps, dif_neg (by omega), if_pos hi]
theorem steps_gt {m n : Nat} (h : 2 ≤ n) (hm : m ≠ n) (hi : ¬ m ≤ hf n) : steps m n = (false :: (steps (m - hf n) (n - hf n)).1, false) := by
  rw [steps, dif_neg (by omega), if_neg hi]

/-- The consistency proof. -/
def tsteps (l : List D) (m : Nat) (whole : Bool) : List D :=
  if h : l.length < 2 ∨ m = l.length then (if whole then [] else [root nd em l]) else
    if m ≤ hf l.length then tsteps (l.take (hf l.length)) m whole ++ [root nd em (l.drop (hf l.length))]
    else tsteps (l.drop (hf l.length)) (m - hf l.length) false ++ [root nd em (l.take (hf l.length))]
termination_by l.length
decreasing_by
  all_goals
    have h1 := hf_lt (n := l.length) (by omega)
    have h2 := hf_pos l.length
    simp only [List.length_take, List.length_drop]
    omega

theorem tsteps_end {l : List D} {m : Nat} {w : Bool} (h : l.length < 2 ∨ m = l.length) : tsteps nd em l m w = if w then [] else [root nd em l] := by rw [tsteps, dif_pos h]
theorem tsteps_le {l : List D} {m : Nat} {w : Bool} (h : 2 ≤ l.length) (hm : m ≠ l.length) (hi : m ≤ hf l.length) :
    tsteps nd em l m w = tsteps nd em (l.take (hf l.length)) m w ++ [root nd em (l.drop (hf l.length))] := by
  rw [tsteps, dif_neg (by omega), if_pos hi]
theorem tsteps_gt {l : List D} {m : Nat} {w : Bool} (h : 2 ≤ l.length) (hm : m ≠ l.length) (hi : ¬ m ≤ hf l.length) :
    tsteps nd em l m w = tsteps nd em (l.drop (hf l.length)) (m - hf l.length) false ++ [root nd em (l.take (hf l.length))] := by
  rw [tsteps, dif_neg (by omega), if_neg hi]

/-- Up from the part that ends at m, to the older and the newer root. The start: both are the same. -/
def climb2 (st : D) : List Bool → List D → D × D
  | [], _ => (st, st)
  | t :: ts, p => match p.getLast? with
    | none => (st, st)
    | some x => if t then ((climb2 st ts p.dropLast).1, nd (climb2 st ts p.dropLast).2 x) else (nd x (climb2 st ts p.dropLast).1, nd x (climb2 st ts p.dropLast).2)

theorem climb2_snoc (st : D) (t : Bool) (ts : List Bool) (p : List D) (x : D) :
    climb2 nd st (t :: ts) (p ++ [x]) = if t then ((climb2 nd st ts p).1, nd (climb2 nd st ts p).2 x) else (nd x (climb2 nd st ts p).1, nd x (climb2 nd st ts p).2) := by
  simp [climb2]

theorem climb2_fold (st : D) : ∀ (ts : List Bool) (p : List D), ts.length = p.length →
    climb2 nd st ts p = (ts.reverse.zip p).foldl (fun (d : D × D) q => if q.1 then (d.1, nd d.2 q.2) else (nd q.2 d.1, nd q.2 d.2)) (st, st) := by
  intro ts
  induction ts with
  | nil => intro p _; simp [climb2]
  | cons t ts ih =>
    intro p hp
    rcases List.eq_nil_or_concat p with rfl | ⟨q, x, rfl⟩
    · simp at hp
    · rw [List.concat_eq_append] at hp ⊢
      have hq : ts.length = q.length := by simpa using hp
      rw [climb2_snoc, ih q hq]
      rw [List.reverse_cons, List.zip_append (by simpa using hq)]
      simp only [List.zip_cons_cons, List.zip_nil_right, List.foldl_append, List.foldl_cons, List.foldl_nil]

/-- What a consistency proof leads to: if the way leads not along the left edge, its first digest is the common part. -/
def roots2 (first : D) (m n : Nat) (p : List D) : D × D :=
  if (steps m n).2 then climb2 nd first (steps m n).1 p else match p with
    | [] => (first, first)
    | x :: r => climb2 nd x (steps m n).1 r

theorem steps_tsteps : ∀ (n : Nat) (l : List D), l.length = n → ∀ m, 1 ≤ m → m ≤ n →
    ∃ c r, tsteps nd em l m false = c :: r ∧ r.length = (steps m n).1.length ∧ climb2 nd c (steps m n).1 r = (root nd em (l.take m), root nd em l) ∧
      ((steps m n).2 = true → c = root nd em (l.take m) ∧ tsteps nd em l m true = r) ∧ ((steps m n).2 = false → tsteps nd em l m true = c :: r) := by
  intro n
  induction n using Nat.strongRecOn with
  | ind n ih =>
    intro l hl m h1 hm
    rcases Nat.lt_or_ge n 2 with h | h
    · have hmn : m = n := by omega
      rw [steps_end (.inl h), tsteps_end nd em (.inl (by omega)), tsteps_end nd em (.inl (by omega))]
      refine ⟨_, [], rfl, rfl, ?_, ?_, ?_⟩
      · simp [climb2, hmn, ← hl]
      · simp [hmn, ← hl]
      · simp
    · by_cases hmn : m = n
      · rw [steps_end (.inr hmn), tsteps_end nd em (.inr (by omega)), tsteps_end nd em (.inr (by omega))]
        refine ⟨_, [], rfl, rfl, ?_, ?_, ?_⟩
        · simp [climb2, hmn, ← hl]
        · simp [hmn, ← hl]
        · simp
      · have hlt := hf_lt h
        have hp := hf_pos n
        subst hl
        have hroot := root_split nd em (l := l) h
        by_cases hi : m ≤ hf l.length
        · rw [steps_le h hmn hi, tsteps_le nd em h hmn hi, tsteps_le nd em h hmn hi]
          obtain ⟨c, r, e1, e2, e3, e4, e5⟩ := ih _ hlt (l.take (hf l.length)) (by simp; omega) m h1 hi
          rw [List.take_take, Nat.min_eq_left hi] at e3 e4
          refine ⟨c, r ++ [root nd em (l.drop (hf l.length))], by rw [e1]; rfl, by simp [e2], ?_, ?_, ?_⟩
          · rw [climb2_snoc, e3, hroot]; simp
          · intro hw; obtain ⟨a, b⟩ := e4 hw; exact ⟨a, by rw [b]⟩
          · intro hw; rw [e5 hw]; rfl
        · rw [steps_gt h hmn hi, tsteps_gt nd em h hmn hi, tsteps_gt nd em h hmn hi]
          obtain ⟨c, r, e1, e2, e3, e4, e5⟩ := ih (l.length - hf l.length) (by omega) (l.drop (hf l.length)) (by simp) (m - hf l.length) (by omega) (by omega)
          refine ⟨c, r ++ [root nd em (l.take (hf l.length))], by rw [e1]; rfl, by simp [e2], ?_, by simp, ?_⟩
          · rw [climb2_snoc, e3, hroot]
            simp only [Bool.false_eq_true, if_false, Prod.mk.injEq, and_true]
            have e : l.take m = l.take (hf l.length) ++ (l.drop (hf l.length)).take (m - hf l.length) := by
              rw [← List.take_add]; congr 1; omega
            rw [e]
            have hj : ∃ j, hf l.length = 2 ^ j := ⟨_, rfl⟩
            obtain ⟨j, hj⟩ := hj
            have hge := hf_ge h
            refine (root_join nd em j (by simp; omega) (by simp; omega) ?_).symm
            simp; omega
          · intro _; rw [e1]; rfl
end

/-! ### Numbers of bits -/
theorem bitLenAux_eq : ∀ (f x : Nat), 0 < x → x < 2 ^ f → Go.Lib.bitLenAux f x = Nat.log2 x + 1 := by
  intro f
  induction f with
  | zero => intro x h0 h; simp at h; omega
  | succ f ih =>
    intro x h0 h
    have hx : x ≠ 0 := by omega
    simp only [Go.Lib.bitLenAux, hx, if_false]
    rcases Nat.lt_or_ge x 2 with h2 | h2
    · have : x = 1 := by omega
      subst this
      have h1 : Nat.log2 1 = 0 := by decide
      cases f <;> simp [Go.Lib.bitLenAux, h1]
    · rw [ih (x / 2) (by omega) (by rw [Nat.pow_succ] at h; omega), Nat.log2_def x, if_pos h2]
      omega
theorem bitLen_eq {x : Nat} (h0 : 0 < x) (h : x < 18446744073709551616) : Go.Lib.bitLen x = Nat.log2 x + 1 := bitLenAux_eq 64 x h0 h
theorem half_bits {n : Nat} (h : 2 ≤ n) (hb : n < 18446744073709551616) : 2 ^ (Go.Lib.bitLen (n - 1) - 1) = hf n := by
  rw [bitLen_eq (by omega) (by omega), hf]; simp
theorem bitLen_le {x j : Nat} (h : x < 2 ^ j) (hb : x < 18446744073709551616) : Go.Lib.bitLen x ≤ j := by
  rcases Nat.eq_zero_or_pos x with h0 | h0
  · subst h0; simp [Go.Lib.bitLen, Go.Lib.bitLenAux]
  · rw [bitLen_eq h0 hb]
    have := (Nat.log2_lt (by omega : x ≠ 0)).2 h
    omega
theorem bitLen_pos {x : Nat} (h0 : 0 < x) (hb : x < 18446744073709551616) : 1 ≤ Go.Lib.bitLen x := by rw [bitLen_eq h0 hb]; omega

theorem hf_le {n j : Nat} (h : 2 ≤ n) (hn : n ≤ 2 ^ (j + 1)) : hf n ≤ 2 ^ j := by
  unfold hf
  refine Nat.pow_le_pow_right (by decide) ?_
  have := (Nat.log2_lt (n := n - 1) (k := j + 1) (by omega)).2 (by omega)
  omega
theorem way_len : ∀ (j n i : Nat), n ≤ 2 ^ j → (way i n).length ≤ j := by
  intro j
  induction j with
  | zero => intro n i h; rw [way_one (by simp at h; omega)]; simp
  | succ j ih =>
    intro n i h
    rcases Nat.lt_or_ge n 2 with h2 | h2
    · rw [way_one h2]; simp
    · have h3 := hf_le h2 h
      have h4 := hf_ge h2
      by_cases hi : i < hf n
      · rw [way_lt h2 hi]; simp only [List.length_cons]; have := ih _ i h3; omega
      · rw [way_ge h2 hi]; simp only [List.length_cons]; have := ih (n - hf n) (i - hf n) (by omega); omega
theorem steps_len : ∀ (j n m : Nat), n ≤ 2 ^ j → (steps m n).1.length ≤ j := by
  intro j
  induction j with
  | zero => intro n m h; rw [steps_end (.inl (by simp at h; omega))]; simp
  | succ j ih =>
    intro n m h
    by_cases h2 : n < 2 ∨ m = n
    · rw [steps_end h2]; simp
    · have h5 : 2 ≤ n := by omega
      have h3 := hf_le h5 h
      have h4 := hf_ge h5
      by_cases hi : m ≤ hf n
      · rw [steps_le h5 (by omega) hi]; simp only [List.length_cons]; have := ih _ m h3; omega
      · rw [steps_gt h5 (by omega) hi]; simp only [List.length_cons]; have := ih (n - hf n) (m - hf n) (by omega); omega

/-- How many digests a consistency proof has. -/
def cnt (l : List Bool) (whole : Bool) : Nat := if whole then l.length else l.length + 1
theorem pow_lt_of {k j n : Nat} (h : 2 ^ j < n) (hn : n ≤ 2 ^ (k + 1)) : j ≤ k := by
  rcases Nat.lt_or_ge k j with h1 | h1
  · have : 2 ^ (k + 1) ≤ 2 ^ j := Nat.pow_le_pow_right (by decide) h1
    omega
  · exact h1
end Cop
