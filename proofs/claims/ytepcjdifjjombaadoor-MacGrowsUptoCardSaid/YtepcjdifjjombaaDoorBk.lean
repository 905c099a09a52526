/- Bulks of what came in; a cell of a list. -/
import Derived.Test.YtepcjdifjjombaaDoorOl
import Derived.Test.YtepcjdifjjombaaDoorRows
namespace Go.Proofs.YtepcjdifjjombaaDoor
open Go.RowKit Cop
set_option linter.unusedVariables false
set_option linter.unusedSimpArgs false
theorem rd_get {w : World} {b o n c size : Nat} {cs : List Value} (h : Rd w (.slice (some ⟨b, o, none⟩) n c) n size cs) (h0 : 0 < n) (j : Nat) (u : Value) (hj : cs[j]? = some u) : w.cell? ⟨b, o + j, none⟩ = some u := by
  obtain ⟨_, A', c', he, _, _, _, hc⟩ := h
  injection he with e1 _ e3
  subst e1 e3
  obtain ⟨b', o', e4, h5⟩ := hc h0
  injection e4 with e4
  injection e4 with e5 e6
  subst e5 e6
  exact h5 j u hj
theorem sum_bulk {H : Type} {α : Type} (f : α → Nat) : ∀ (l : List α) (ds : List (DataW H)), ds.length = l.length → (∀ (i : Nat) (y : α) (z : DataW H), l[i]? = some y → ds[i]? = some z → f y ≤ Rows.uptoBulk z) → (l.map f).sum ≤ Rows.uptoBulkAll ds
  | [], ds, _, _ => by simp
  | a :: l, [], h, _ => by simp at h
  | a :: l, d :: ds, h, hb => by
    have h1 := hb 0 a d rfl rfl
    have h2 := sum_bulk f l ds (by simpa using h) (fun i y z hy hz => hb (i + 1) y z (by simpa using hy) (by simpa using hz))
    simp only [List.map_cons, List.sum_cons, Rows.uptoBulkAll]
    omega
theorem bulk_one {H : Type} (d : DataW H) : 1 ≤ Rows.uptoBulk d := by
  cases d with
  | lit l => cases l <;> simp [Rows.uptoBulk]
  | _ => simp [Rows.uptoBulk]
theorem bulk_len {H : Type} (l : List (DataW H)) : l.length ≤ Rows.uptoBulkAll l := by
  induction l with
  | nil => simp [Rows.uptoBulkAll]
  | cons x r ih => have := bulk_one x; simp only [Rows.uptoBulkAll, List.length_cons]; omega
theorem bulk_bytes {H : Type} {x : DataW H} {l : List UInt8} (h : (x = .nil ∧ l = []) ∨ ∃ ds rest, x = .slice ds rest ∧ ds.length = l.length) : l.length ≤ Rows.uptoBulk x := by
  rcases h with ⟨_, rfl⟩ | ⟨ds, rest, rfl, hl⟩
  · simp
  · have := bulk_len ds
    simp only [Rows.uptoBulk]
    omega
end Go.Proofs.YtepcjdifjjombaaDoor
