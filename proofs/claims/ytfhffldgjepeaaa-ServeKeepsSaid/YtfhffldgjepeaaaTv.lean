/- tile.Valid and the document's, at width 1. -/
import Derived.Test.YtfhffldgjepeaaaNa
import Derived.Test.YtfhffldgjepeaaaGz
namespace Go.Proofs.Ytfhffldgjepeaaa
open Go.RowKit Cop
set_option linter.unusedVariables false
set_option linter.unusedSimpArgs false
/-- A tile that may be (of width 1). -/
def tvo (h L I : Int) : Bool := decide (1 ≤ h ∧ h ≤ 8 ∧ 0 ≤ L ∧ L * h ≤ 48 ∧ 0 ≤ I) && vok (L * h) (I * 2 ^ h.toNat)
theorem row4 {w : World} {g : Nat} {a b c d : Value} {t : TypeId} (h : w.heap[g]? = some (.cells #[a, b, c, d] t (0, 0))) : w.cell? ⟨g, 0, none⟩ = some a ∧ w.cell? ⟨g, 1, none⟩ = some b ∧ w.cell? ⟨g, 2, none⟩ = some c ∧ w.cell? ⟨g, 3, none⟩ = some d := ⟨row_cell h 0, row_cell h 1, row_cell h 2, row_cell h 3⟩
theorem height_a (h : Int) (b : Bool) (hb : (decide (1 ≤ h) && decide (h ≤ 8)) = b) (w : World) : Calls Try.prog 16 #[.int .i64 h] w fun e w' => e = .returned (.bool b) ∧ Below w.heap.size w w' := by
  by_cases h1 : 1 ≤ h
  · by_cases h2 : h ≤ 8
    · go_enter Try.func16, Try.ntmps16
      go_wp2
      go_ret
      exact ⟨ret_bool (by rw [← hb]; simp; omega), Below.refl _ _⟩
    · go_enter Try.func16, Try.ntmps16
      go_wp2
      go_ret
      exact ⟨ret_bool (by rw [← hb]; simp; omega), Below.refl _ _⟩
  · go_enter Try.func16, Try.ntmps16
    go_wp2
    go_ret
    exact ⟨ret_bool (by rw [← hb]; simp; omega), Below.refl _ _⟩
theorem height_b (h : Int) (b : Bool) (hb : (decide (1 ≤ h) && decide (h ≤ 8)) = b) (w : World) : Calls Try.prog 13 #[.int .i64 h] w fun e w' => e = .returned (.bool b) ∧ Below w.heap.size w w' := by
  by_cases h1 : 1 ≤ h
  · by_cases h2 : h ≤ 8
    · go_enter Try.func13, Try.ntmps13
      go_wp2
      go_ret
      exact ⟨ret_bool (by rw [← hb]; simp; omega), Below.refl _ _⟩
    · go_enter Try.func13, Try.ntmps13
      go_wp2
      go_ret
      exact ⟨ret_bool (by rw [← hb]; simp; omega), Below.refl _ _⟩
  · go_enter Try.func13, Try.ntmps13
    go_wp2
    go_ret
    exact ⟨ret_bool (by rw [← hb]; simp; omega), Below.refl _ _⟩
theorem vok_big (l i : Int) (h : 281474976710656 ≤ i) : vok l i = false := by
  by_cases h0 : 0 ≤ l
  · have h1 : (281474976710656 : Int) / 2 ^ l.toNat ≤ 281474976710656 := Int.ediv_le_self _ (by decide)
    simp [vok]
    intro _ _ _
    omega
  · simp [vok, h0]
theorem full_b (k : Nat) (hk : k ≤ 8) (p : Int) (hp : (2 : Int) ^ k = p) (w : World) : Calls Try.prog 14 #[.int .i64 k] w fun e w' => e = .returned (.int .i64 p) ∧ Below w.heap.size w w' := by
  have hh : k = 0 ∨ k = 1 ∨ k = 2 ∨ k = 3 ∨ k = 4 ∨ k = 5 ∨ k = 6 ∨ k = 7 ∨ k = 8 := by omega
  rcases hh with rfl | rfl | rfl | rfl | rfl | rfl | rfl | rfl | rfl <;>
    (go_enter Try.func14, Try.ntmps14
     go_wp2
     go_ret
     exact ⟨by rw [← hp]; rfl, Below.refl _ _⟩)
theorem tva_bad (h L I : Int) (w : World) (hh : ¬ (1 ≤ h ∧ h ≤ 8)) : Calls Try.prog 12 #[.agg #[.int .i64 h, .int .i64 L, .int .i64 I, .int .i64 1]] w fun e w' => e = .returned (.bool false) ∧ Below w.heap.size w w' := by
  have HV := Lib.hid (fun w' => height_a h false (by simp; omega) w')
  have HF := HV
  go_enter Try.func12, Try.ntmps12
  go_wp2
  first | refine Cop.wl_world fun w1 hw1 => ?_ | refine Cop.calls_world fun w1 hw1 => ?_ | refine Cop.exit_world fun w1 hw1 => ?_ | refine Cop.code_world fun w1 hw1 => ?_
  obtain ⟨c0, c1, c2, c3⟩ : w1.cell? ⟨w.heap.size, 0, none⟩ = some (.int .i64 h) ∧ w1.cell? ⟨w.heap.size, 1, none⟩ = some (.int .i64 L) ∧ w1.cell? ⟨w.heap.size, 2, none⟩ = some (.int .i64 I) ∧ w1.cell? ⟨w.heap.size, 3, none⟩ = some (.int .i64 1) := by rw [← hw1]; exact row4 (at_new _ _ _ rfl)
  have bb : Below w.heap.size w w1 := by rw [← hw1]; exact (Below.refl _ _).alloc (Nat.le_refl _) _
  clear hw1
  (refine Cop.region_gq 40 (by kernel_rfl) (by kernel_rfl) ?_)
  (repeat (first | (refine Cop.gq_skip rfl _ (by simp only [Act.put, List.setIfInBounds_toArray, List.set_cons_succ, List.set_cons_zero]; rfl) ?_) | (refine Cop.gq_val rfl ?_; apply Exists.intro; refine ⟨fun w9 h9 => ?_, _, by simp only [Act.put, List.setIfInBounds_toArray, List.set_cons_succ, List.set_cons_zero]; rfl, ?_⟩; (have d0 := bcell h9 c0; have d1 := bcell h9 c1; have d2 := bcell h9 c2; have d3 := bcell h9 c3; unfold Oper.quietAt; go_simp; first | done | with_reducible exact rfl | with_reducible exact ⟨rfl, rfl⟩ | with_reducible exact Cop.bcalls h9 (HV.out _) | with_reducible exact Cop.bcalls h9 (HF.out _))))); refine Cop.gq_end ?_
  intro w2 b2
  go_wp2
  go_ret
  exact ⟨rfl, bb.trans (b2.mono bb.size)⟩
theorem tvb_bad (h L I : Int) (w : World) (hh : ¬ (1 ≤ h ∧ h ≤ 8)) : Calls Try.prog 9 #[.agg #[.int .i64 h, .int .i64 L, .int .i64 I, .int .i64 1]] w fun e w' => e = .returned (.bool false) ∧ Below w.heap.size w w' := by
  have HV := Lib.hid (fun w' => height_b h false (by simp; omega) w')
  have HF := HV
  go_enter Try.func9, Try.ntmps9
  go_wp2
  first | refine Cop.wl_world fun w1 hw1 => ?_ | refine Cop.calls_world fun w1 hw1 => ?_ | refine Cop.exit_world fun w1 hw1 => ?_ | refine Cop.code_world fun w1 hw1 => ?_
  obtain ⟨c0, c1, c2, c3⟩ : w1.cell? ⟨w.heap.size, 0, none⟩ = some (.int .i64 h) ∧ w1.cell? ⟨w.heap.size, 1, none⟩ = some (.int .i64 L) ∧ w1.cell? ⟨w.heap.size, 2, none⟩ = some (.int .i64 I) ∧ w1.cell? ⟨w.heap.size, 3, none⟩ = some (.int .i64 1) := by rw [← hw1]; exact row4 (at_new _ _ _ rfl)
  have bb : Below w.heap.size w w1 := by rw [← hw1]; exact (Below.refl _ _).alloc (Nat.le_refl _) _
  clear hw1
  (refine Cop.region_gq 32 (by kernel_rfl) (by kernel_rfl) ?_)
  (repeat (first | (refine Cop.gq_skip rfl _ (by simp only [Act.put, List.setIfInBounds_toArray, List.set_cons_succ, List.set_cons_zero]; rfl) ?_) | (refine Cop.gq_val rfl ?_; apply Exists.intro; refine ⟨fun w9 h9 => ?_, _, by simp only [Act.put, List.setIfInBounds_toArray, List.set_cons_succ, List.set_cons_zero]; rfl, ?_⟩; (have d0 := bcell h9 c0; have d1 := bcell h9 c1; have d2 := bcell h9 c2; have d3 := bcell h9 c3; unfold Oper.quietAt; go_simp; first | done | with_reducible exact rfl | with_reducible exact ⟨rfl, rfl⟩ | with_reducible exact Cop.bcalls h9 (HV.out _) | with_reducible exact Cop.bcalls h9 (HF.out _))))); refine Cop.gq_end ?_
  intro w2 b2
  go_wp2
  go_ret
  exact ⟨rfl, bb.trans (b2.mono bb.size)⟩
end Go.Proofs.Ytfhffldgjepeaaa
