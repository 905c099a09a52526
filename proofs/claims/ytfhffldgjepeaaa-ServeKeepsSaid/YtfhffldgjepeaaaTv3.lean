/- tile.Valid and the document's at some heights. -/
import Derived.Test.YtfhffldgjepeaaaTv
namespace Go.Proofs.Ytfhffldgjepeaaa
open Go.RowKit Cop
set_option linter.unusedVariables false
set_option linter.unusedSimpArgs false
set_option maxHeartbeats 4000000 in
theorem tva_5 (L I : Int) (r : Bool) (hr : tvo 5 L I = r) (w : World) : Calls Try.prog 12 #[.agg #[.int .i64 5, .int .i64 L, .int .i64 I, .int .i64 1]] w fun e w' => e = .returned (.bool r) ∧ Below w.heap.size w w' := by
  have HR := Lib.hid hr
  have HV := Lib.hid (fun w' => height_a 5 true (by decide) w')
  have HF := HV
  have q1 : IntKind.i64.wrap 9 = 9 := by decide
  have q2 : IntKind.i64.wrap 32 = 32 := by decide
  clear hr
  go_enter Try.func12, Try.ntmps12
  go_wp2
  first | refine Cop.wl_world fun w1 hw1 => ?_ | refine Cop.calls_world fun w1 hw1 => ?_ | refine Cop.exit_world fun w1 hw1 => ?_ | refine Cop.code_world fun w1 hw1 => ?_
  obtain ⟨c0, c1, c2, c3⟩ : w1.cell? ⟨w.heap.size, 0, none⟩ = some (.int .i64 5) ∧ w1.cell? ⟨w.heap.size, 1, none⟩ = some (.int .i64 L) ∧ w1.cell? ⟨w.heap.size, 2, none⟩ = some (.int .i64 I) ∧ w1.cell? ⟨w.heap.size, 3, none⟩ = some (.int .i64 1) := by rw [← hw1]; exact row4 (at_new _ _ _ rfl)
  have bb : Below w.heap.size w w1 := by rw [← hw1]; exact (Below.refl _ _).alloc (Nat.le_refl _) _
  clear hw1
  by_cases l0 : L < 0
  · have e0 : decide (L < 0) = true := decide_eq_true l0
    (refine Cop.region_gq 40 (by kernel_rfl) (by kernel_rfl) ?_)
    (repeat (first | (refine Cop.gq_skip rfl _ (by simp only [Act.put, List.setIfInBounds_toArray, List.set_cons_succ, List.set_cons_zero]; rfl) ?_) | (refine Cop.gq_val rfl ?_; apply Exists.intro; refine ⟨fun w9 h9 => ?_, _, by simp only [Act.put, List.setIfInBounds_toArray, List.set_cons_succ, List.set_cons_zero]; rfl, ?_⟩; (have d0 := bcell h9 c0; have d1 := bcell h9 c1; have d2 := bcell h9 c2; have d3 := bcell h9 c3; unfold Oper.quietAt; go_simp; first | done | with_reducible exact rfl | with_reducible exact ⟨rfl, rfl⟩ | with_reducible exact Cop.bcalls h9 (HV.out _) | with_reducible exact Cop.bcalls h9 (HF.out _))))); refine Cop.gq_end ?_
    intro w2 b2
    go_wp2
    go_ret
    exact ⟨ret_bool (by rw [← HR.out]; simp [tvo]; omega), bb.trans (b2.mono bb.size)⟩
  · have e0 : decide (L < 0) = false := decide_eq_false l0
    by_cases l1 : 9 < L
    · have e1 : decide (9 < L) = true := decide_eq_true l1
      (refine Cop.region_gq 40 (by kernel_rfl) (by kernel_rfl) ?_)
      (repeat (first | (refine Cop.gq_skip rfl _ (by simp only [Act.put, List.setIfInBounds_toArray, List.set_cons_succ, List.set_cons_zero]; rfl) ?_) | (refine Cop.gq_val rfl ?_; apply Exists.intro; refine ⟨fun w9 h9 => ?_, _, by simp only [Act.put, List.setIfInBounds_toArray, List.set_cons_succ, List.set_cons_zero]; rfl, ?_⟩; (have d0 := bcell h9 c0; have d1 := bcell h9 c1; have d2 := bcell h9 c2; have d3 := bcell h9 c3; unfold Oper.quietAt; go_simp; first | done | with_reducible exact rfl | with_reducible exact ⟨rfl, rfl⟩ | with_reducible exact Cop.bcalls h9 (HV.out _) | with_reducible exact Cop.bcalls h9 (HF.out _))))); refine Cop.gq_end ?_
      intro w2 b2
      go_wp2
      go_ret
      exact ⟨ret_bool (by rw [← HR.out]; simp [tvo]; omega), bb.trans (b2.mono bb.size)⟩
    · have e1 : decide (9 < L) = false := decide_eq_false l1
      by_cases i0 : I < 0
      · have e2 : decide (I < 0) = true := decide_eq_true i0
        (refine Cop.region_gq 40 (by kernel_rfl) (by kernel_rfl) ?_)
        (repeat (first | (refine Cop.gq_skip rfl _ (by simp only [Act.put, List.setIfInBounds_toArray, List.set_cons_succ, List.set_cons_zero]; rfl) ?_) | (refine Cop.gq_val rfl ?_; apply Exists.intro; refine ⟨fun w9 h9 => ?_, _, by simp only [Act.put, List.setIfInBounds_toArray, List.set_cons_succ, List.set_cons_zero]; rfl, ?_⟩; (have d0 := bcell h9 c0; have d1 := bcell h9 c1; have d2 := bcell h9 c2; have d3 := bcell h9 c3; unfold Oper.quietAt; go_simp; first | done | with_reducible exact rfl | with_reducible exact ⟨rfl, rfl⟩ | with_reducible exact Cop.bcalls h9 (HV.out _) | with_reducible exact Cop.bcalls h9 (HF.out _))))); refine Cop.gq_end ?_
        intro w2 b2
        go_wp2
        go_ret
        exact ⟨ret_bool (by rw [← HR.out]; simp [tvo]; omega), bb.trans (b2.mono bb.size)⟩
      · have e2 : decide (I < 0) = false := decide_eq_false i0
        by_cases i1 : 281474976710656 < I
        · have e3 : decide (281474976710656 < I) = true := decide_eq_true i1
          (refine Cop.region_gq 40 (by kernel_rfl) (by kernel_rfl) ?_)
          (repeat (first | (refine Cop.gq_skip rfl _ (by simp only [Act.put, List.setIfInBounds_toArray, List.set_cons_succ, List.set_cons_zero]; rfl) ?_) | (refine Cop.gq_val rfl ?_; apply Exists.intro; refine ⟨fun w9 h9 => ?_, _, by simp only [Act.put, List.setIfInBounds_toArray, List.set_cons_succ, List.set_cons_zero]; rfl, ?_⟩; (have d0 := bcell h9 c0; have d1 := bcell h9 c1; have d2 := bcell h9 c2; have d3 := bcell h9 c3; unfold Oper.quietAt; go_simp; first | done | with_reducible exact rfl | with_reducible exact ⟨rfl, rfl⟩ | with_reducible exact Cop.bcalls h9 (HV.out _) | with_reducible exact Cop.bcalls h9 (HF.out _))))); refine Cop.gq_end ?_
          intro w2 b2
          go_wp2
          go_ret
          exact ⟨ret_bool (by rw [← HR.out]; rw [tvo, vok_big _ _ (by show (281474976710656 : Int) ≤ I * 32; omega), Bool.and_false]), bb.trans (b2.mono bb.size)⟩
        · have e3 : decide (281474976710656 < I) = false := decide_eq_false i1
          have HW := Lib.hid (fun w' => valid_a (L * 5) (I * 32) w')
          have HE := Lib.hid (show vok (L * 5) (I * 32) = r by rw [← HR.out, tvo, decide_eq_true (by omega), Bool.true_and]; rfl)
          rw [HE.out] at HW
          (refine Cop.region_gq 40 (by kernel_rfl) (by kernel_rfl) ?_)
          (repeat (first | (refine Cop.gq_skip rfl _ (by simp only [Act.put, List.setIfInBounds_toArray, List.set_cons_succ, List.set_cons_zero]; rfl) ?_) | (refine Cop.gq_val rfl ?_; apply Exists.intro; refine ⟨fun w9 h9 => ?_, _, by simp only [Act.put, List.setIfInBounds_toArray, List.set_cons_succ, List.set_cons_zero]; rfl, ?_⟩; (have d0 := bcell h9 c0; have d1 := bcell h9 c1; have d2 := bcell h9 c2; have d3 := bcell h9 c3; unfold Oper.quietAt; go_simp; first | done | with_reducible exact rfl | with_reducible exact ⟨rfl, rfl⟩ | with_reducible exact Cop.bcalls h9 (HV.out _) | with_reducible exact Cop.bcalls h9 (HF.out _))))); refine Cop.gq_end ?_
          intro w2 b2
          have c0 := bcell b2 c0
          have c1 := bcell b2 c1
          have c2 := bcell b2 c2
          have c3 := bcell b2 c3
          have bb := bb.trans (b2.mono bb.size)
          clear b2
          have q3 : IntKind.i64.wrap (L * 5) = L * 5 := by rw [IntKind.wrap_i64]; omega
          have q4 : IntKind.i64.wrap (I * 32) = I * 32 := by rw [IntKind.wrap_i64]; omega
          have q5 : IntKind.i64.wrap (I * 32 + 1) = I * 32 + 1 := by rw [IntKind.wrap_i64]; omega
          have q6 : IntKind.i64.wrap (I * 2 ^ 5) = I * 32 := by rw [IntKind.wrap_i64]; omega
          go_wp2
          (refine Cop.region_gq 17 (by kernel_rfl) (by kernel_rfl) ?_)
          (repeat (first | (refine Cop.gq_skip rfl _ (by simp only [Act.put, List.setIfInBounds_toArray, List.set_cons_succ, List.set_cons_zero]; rfl) ?_) | (refine Cop.gq_val rfl ?_; apply Exists.intro; refine ⟨fun w9 h9 => ?_, _, by simp only [Act.put, List.setIfInBounds_toArray, List.set_cons_succ, List.set_cons_zero]; rfl, ?_⟩; (have d0 := bcell h9 c0; have d1 := bcell h9 c1; have d2 := bcell h9 c2; have d3 := bcell h9 c3; unfold Oper.quietAt; go_simp; first | done | with_reducible exact rfl | with_reducible exact ⟨rfl, rfl⟩ | with_reducible exact Cop.bcalls h9 (HW.out _))))); refine Cop.gq_end ?_
          intro w3 b3
          go_wp2
          go_ret
          exact ⟨rfl, bb.trans (b3.mono bb.size)⟩
set_option maxHeartbeats 4000000 in
theorem tvb_5 (L I : Int) (r : Bool) (hr : tvo 5 L I = r) (w : World) : Calls Try.prog 9 #[.agg #[.int .i64 5, .int .i64 L, .int .i64 I, .int .i64 1]] w fun e w' => e = .returned (.bool r) ∧ Below w.heap.size w w' := by
  have HR := Lib.hid hr
  have HV := Lib.hid (fun w' => height_b 5 true (by decide) w')
  have HF := Lib.hid (fun w' => full_b 5 (by decide) 32 (by decide) w')
  clear hr
  go_enter Try.func9, Try.ntmps9
  go_wp2
  first | refine Cop.wl_world fun w1 hw1 => ?_ | refine Cop.calls_world fun w1 hw1 => ?_ | refine Cop.exit_world fun w1 hw1 => ?_ | refine Cop.code_world fun w1 hw1 => ?_
  obtain ⟨c0, c1, c2, c3⟩ : w1.cell? ⟨w.heap.size, 0, none⟩ = some (.int .i64 5) ∧ w1.cell? ⟨w.heap.size, 1, none⟩ = some (.int .i64 L) ∧ w1.cell? ⟨w.heap.size, 2, none⟩ = some (.int .i64 I) ∧ w1.cell? ⟨w.heap.size, 3, none⟩ = some (.int .i64 1) := by rw [← hw1]; exact row4 (at_new _ _ _ rfl)
  have bb : Below w.heap.size w w1 := by rw [← hw1]; exact (Below.refl _ _).alloc (Nat.le_refl _) _
  clear hw1
  by_cases l0 : L < 0
  · have e0 : decide (L < 0) = true := decide_eq_true l0
    (refine Cop.region_gq 32 (by kernel_rfl) (by kernel_rfl) ?_)
    (repeat (first | (refine Cop.gq_skip rfl _ (by simp only [Act.put, List.setIfInBounds_toArray, List.set_cons_succ, List.set_cons_zero]; rfl) ?_) | (refine Cop.gq_val rfl ?_; apply Exists.intro; refine ⟨fun w9 h9 => ?_, _, by simp only [Act.put, List.setIfInBounds_toArray, List.set_cons_succ, List.set_cons_zero]; rfl, ?_⟩; (have d0 := bcell h9 c0; have d1 := bcell h9 c1; have d2 := bcell h9 c2; have d3 := bcell h9 c3; unfold Oper.quietAt; go_simp; first | done | with_reducible exact rfl | with_reducible exact ⟨rfl, rfl⟩ | with_reducible exact Cop.bcalls h9 (HV.out _) | with_reducible exact Cop.bcalls h9 (HF.out _))))); refine Cop.gq_end ?_
    intro w2 b2
    go_wp2
    go_ret
    exact ⟨ret_bool (by rw [← HR.out]; simp [tvo]; omega), bb.trans (b2.mono bb.size)⟩
  · have e0 : decide (L < 0) = false := decide_eq_false l0
    by_cases l1 : 48 < L
    · have e1 : decide (48 < L) = true := decide_eq_true l1
      (refine Cop.region_gq 32 (by kernel_rfl) (by kernel_rfl) ?_)
      (repeat (first | (refine Cop.gq_skip rfl _ (by simp only [Act.put, List.setIfInBounds_toArray, List.set_cons_succ, List.set_cons_zero]; rfl) ?_) | (refine Cop.gq_val rfl ?_; apply Exists.intro; refine ⟨fun w9 h9 => ?_, _, by simp only [Act.put, List.setIfInBounds_toArray, List.set_cons_succ, List.set_cons_zero]; rfl, ?_⟩; (have d0 := bcell h9 c0; have d1 := bcell h9 c1; have d2 := bcell h9 c2; have d3 := bcell h9 c3; unfold Oper.quietAt; go_simp; first | done | with_reducible exact rfl | with_reducible exact ⟨rfl, rfl⟩ | with_reducible exact Cop.bcalls h9 (HV.out _) | with_reducible exact Cop.bcalls h9 (HF.out _))))); refine Cop.gq_end ?_
      intro w2 b2
      go_wp2
      go_ret
      exact ⟨ret_bool (by rw [← HR.out]; simp [tvo]; omega), bb.trans (b2.mono bb.size)⟩
    · have e1 : decide (48 < L) = false := decide_eq_false l1
      by_cases i0 : I < 0
      · have e2 : decide (I < 0) = true := decide_eq_true i0
        (refine Cop.region_gq 32 (by kernel_rfl) (by kernel_rfl) ?_)
        (repeat (first | (refine Cop.gq_skip rfl _ (by simp only [Act.put, List.setIfInBounds_toArray, List.set_cons_succ, List.set_cons_zero]; rfl) ?_) | (refine Cop.gq_val rfl ?_; apply Exists.intro; refine ⟨fun w9 h9 => ?_, _, by simp only [Act.put, List.setIfInBounds_toArray, List.set_cons_succ, List.set_cons_zero]; rfl, ?_⟩; (have d0 := bcell h9 c0; have d1 := bcell h9 c1; have d2 := bcell h9 c2; have d3 := bcell h9 c3; unfold Oper.quietAt; go_simp; first | done | with_reducible exact rfl | with_reducible exact ⟨rfl, rfl⟩ | with_reducible exact Cop.bcalls h9 (HV.out _) | with_reducible exact Cop.bcalls h9 (HF.out _))))); refine Cop.gq_end ?_
        intro w2 b2
        go_wp2
        go_ret
        exact ⟨ret_bool (by rw [← HR.out]; simp [tvo]; omega), bb.trans (b2.mono bb.size)⟩
      · have e2 : decide (I < 0) = false := decide_eq_false i0
        (refine Cop.region_gq 32 (by kernel_rfl) (by kernel_rfl) ?_)
        (repeat (first | (refine Cop.gq_skip rfl _ (by simp only [Act.put, List.setIfInBounds_toArray, List.set_cons_succ, List.set_cons_zero]; rfl) ?_) | (refine Cop.gq_val rfl ?_; apply Exists.intro; refine ⟨fun w9 h9 => ?_, _, by simp only [Act.put, List.setIfInBounds_toArray, List.set_cons_succ, List.set_cons_zero]; rfl, ?_⟩; (have d0 := bcell h9 c0; have d1 := bcell h9 c1; have d2 := bcell h9 c2; have d3 := bcell h9 c3; unfold Oper.quietAt; go_simp; first | done | with_reducible exact rfl | with_reducible exact ⟨rfl, rfl⟩ | with_reducible exact Cop.bcalls h9 (HV.out _) | with_reducible exact Cop.bcalls h9 (HF.out _))))); refine Cop.gq_end ?_
        intro w2 b2
        have c0 := bcell b2 c0
        have c1 := bcell b2 c1
        have c2 := bcell b2 c2
        have c3 := bcell b2 c3
        by_cases l2 : 48 < L * 5
        · have e3 : decide (48 < L * 5) = true := decide_eq_true l2
          go_wp2
          go_ret
          exact ⟨ret_bool (by rw [← HR.out]; simp [tvo]; omega), bb.trans (b2.mono bb.size)⟩
        · have e3 : decide (48 < L * 5) = false := decide_eq_false l2
          by_cases i1 : 8796093022208 < I
          · have e4 : decide (8796093022208 < I) = true := decide_eq_true i1
            go_wp2
            go_ret
            exact ⟨ret_bool (by rw [← HR.out]; rw [tvo, vok_big _ _ (by show (281474976710656 : Int) ≤ I * 32; omega), Bool.and_false]), bb.trans (b2.mono bb.size)⟩
          · have e4 : decide (8796093022208 < I) = false := decide_eq_false i1
            have HW := Lib.hid (fun w' => valid_b (L * 5) (I * 32) w')
            have HE := Lib.hid (show vok (L * 5) (I * 32) = r by rw [← HR.out, tvo, decide_eq_true (by omega), Bool.true_and]; rfl)
            rw [HE.out] at HW
            go_wp2_with fail
            refine (HW.out _).mono ?_
            rintro e w3 ⟨rfl, b3⟩
            go_wp2
            go_ret
            exact ⟨rfl, (bb.trans (b2.mono bb.size)).trans (b3.mono (bb.trans (b2.mono bb.size)).size)⟩
set_option maxHeartbeats 4000000 in
theorem tva_6 (L I : Int) (r : Bool) (hr : tvo 6 L I = r) (w : World) : Calls Try.prog 12 #[.agg #[.int .i64 6, .int .i64 L, .int .i64 I, .int .i64 1]] w fun e w' => e = .returned (.bool r) ∧ Below w.heap.size w w' := by
  have HR := Lib.hid hr
  have HV := Lib.hid (fun w' => height_a 6 true (by decide) w')
  have HF := HV
  have q1 : IntKind.i64.wrap 8 = 8 := by decide
  have q2 : IntKind.i64.wrap 64 = 64 := by decide
  clear hr
  go_enter Try.func12, Try.ntmps12
  go_wp2
  first | refine Cop.wl_world fun w1 hw1 => ?_ | refine Cop.calls_world fun w1 hw1 => ?_ | refine Cop.exit_world fun w1 hw1 => ?_ | refine Cop.code_world fun w1 hw1 => ?_
  obtain ⟨c0, c1, c2, c3⟩ : w1.cell? ⟨w.heap.size, 0, none⟩ = some (.int .i64 6) ∧ w1.cell? ⟨w.heap.size, 1, none⟩ = some (.int .i64 L) ∧ w1.cell? ⟨w.heap.size, 2, none⟩ = some (.int .i64 I) ∧ w1.cell? ⟨w.heap.size, 3, none⟩ = some (.int .i64 1) := by rw [← hw1]; exact row4 (at_new _ _ _ rfl)
  have bb : Below w.heap.size w w1 := by rw [← hw1]; exact (Below.refl _ _).alloc (Nat.le_refl _) _
  clear hw1
  by_cases l0 : L < 0
  · have e0 : decide (L < 0) = true := decide_eq_true l0
    (refine Cop.region_gq 40 (by kernel_rfl) (by kernel_rfl) ?_)
    (repeat (first | (refine Cop.gq_skip rfl _ (by simp only [Act.put, List.setIfInBounds_toArray, List.set_cons_succ, List.set_cons_zero]; rfl) ?_) | (refine Cop.gq_val rfl ?_; apply Exists.intro; refine ⟨fun w9 h9 => ?_, _, by simp only [Act.put, List.setIfInBounds_toArray, List.set_cons_succ, List.set_cons_zero]; rfl, ?_⟩; (have d0 := bcell h9 c0; have d1 := bcell h9 c1; have d2 := bcell h9 c2; have d3 := bcell h9 c3; unfold Oper.quietAt; go_simp; first | done | with_reducible exact rfl | with_reducible exact ⟨rfl, rfl⟩ | with_reducible exact Cop.bcalls h9 (HV.out _) | with_reducible exact Cop.bcalls h9 (HF.out _))))); refine Cop.gq_end ?_
    intro w2 b2
    go_wp2
    go_ret
    exact ⟨ret_bool (by rw [← HR.out]; simp [tvo]; omega), bb.trans (b2.mono bb.size)⟩
  · have e0 : decide (L < 0) = false := decide_eq_false l0
    by_cases l1 : 8 < L
    · have e1 : decide (8 < L) = true := decide_eq_true l1
      (refine Cop.region_gq 40 (by kernel_rfl) (by kernel_rfl) ?_)
      (repeat (first | (refine Cop.gq_skip rfl _ (by simp only [Act.put, List.setIfInBounds_toArray, List.set_cons_succ, List.set_cons_zero]; rfl) ?_) | (refine Cop.gq_val rfl ?_; apply Exists.intro; refine ⟨fun w9 h9 => ?_, _, by simp only [Act.put, List.setIfInBounds_toArray, List.set_cons_succ, List.set_cons_zero]; rfl, ?_⟩; (have d0 := bcell h9 c0; have d1 := bcell h9 c1; have d2 := bcell h9 c2; have d3 := bcell h9 c3; unfold Oper.quietAt; go_simp; first | done | with_reducible exact rfl | with_reducible exact ⟨rfl, rfl⟩ | with_reducible exact Cop.bcalls h9 (HV.out _) | with_reducible exact Cop.bcalls h9 (HF.out _))))); refine Cop.gq_end ?_
      intro w2 b2
      go_wp2
      go_ret
      exact ⟨ret_bool (by rw [← HR.out]; simp [tvo]; omega), bb.trans (b2.mono bb.size)⟩
    · have e1 : decide (8 < L) = false := decide_eq_false l1
      by_cases i0 : I < 0
      · have e2 : decide (I < 0) = true := decide_eq_true i0
        (refine Cop.region_gq 40 (by kernel_rfl) (by kernel_rfl) ?_)
        (repeat (first | (refine Cop.gq_skip rfl _ (by simp only [Act.put, List.setIfInBounds_toArray, List.set_cons_succ, List.set_cons_zero]; rfl) ?_) | (refine Cop.gq_val rfl ?_; apply Exists.intro; refine ⟨fun w9 h9 => ?_, _, by simp only [Act.put, List.setIfInBounds_toArray, List.set_cons_succ, List.set_cons_zero]; rfl, ?_⟩; (have d0 := bcell h9 c0; have d1 := bcell h9 c1; have d2 := bcell h9 c2; have d3 := bcell h9 c3; unfold Oper.quietAt; go_simp; first | done | with_reducible exact rfl | with_reducible exact ⟨rfl, rfl⟩ | with_reducible exact Cop.bcalls h9 (HV.out _) | with_reducible exact Cop.bcalls h9 (HF.out _))))); refine Cop.gq_end ?_
        intro w2 b2
        go_wp2
        go_ret
        exact ⟨ret_bool (by rw [← HR.out]; simp [tvo]; omega), bb.trans (b2.mono bb.size)⟩
      · have e2 : decide (I < 0) = false := decide_eq_false i0
        by_cases i1 : 281474976710656 < I
        · have e3 : decide (281474976710656 < I) = true := decide_eq_true i1
          (refine Cop.region_gq 40 (by kernel_rfl) (by kernel_rfl) ?_)
          (repeat (first | (refine Cop.gq_skip rfl _ (by simp only [Act.put, List.setIfInBounds_toArray, List.set_cons_succ, List.set_cons_zero]; rfl) ?_) | (refine Cop.gq_val rfl ?_; apply Exists.intro; refine ⟨fun w9 h9 => ?_, _, by simp only [Act.put, List.setIfInBounds_toArray, List.set_cons_succ, List.set_cons_zero]; rfl, ?_⟩; (have d0 := bcell h9 c0; have d1 := bcell h9 c1; have d2 := bcell h9 c2; have d3 := bcell h9 c3; unfold Oper.quietAt; go_simp; first | done | with_reducible exact rfl | with_reducible exact ⟨rfl, rfl⟩ | with_reducible exact Cop.bcalls h9 (HV.out _) | with_reducible exact Cop.bcalls h9 (HF.out _))))); refine Cop.gq_end ?_
          intro w2 b2
          go_wp2
          go_ret
          exact ⟨ret_bool (by rw [← HR.out]; rw [tvo, vok_big _ _ (by show (281474976710656 : Int) ≤ I * 64; omega), Bool.and_false]), bb.trans (b2.mono bb.size)⟩
        · have e3 : decide (281474976710656 < I) = false := decide_eq_false i1
          have HW := Lib.hid (fun w' => valid_a (L * 6) (I * 64) w')
          have HE := Lib.hid (show vok (L * 6) (I * 64) = r by rw [← HR.out, tvo, decide_eq_true (by omega), Bool.true_and]; rfl)
          rw [HE.out] at HW
          (refine Cop.region_gq 40 (by kernel_rfl) (by kernel_rfl) ?_)
          (repeat (first | (refine Cop.gq_skip rfl _ (by simp only [Act.put, List.setIfInBounds_toArray, List.set_cons_succ, List.set_cons_zero]; rfl) ?_) | (refine Cop.gq_val rfl ?_; apply Exists.intro; refine ⟨fun w9 h9 => ?_, _, by simp only [Act.put, List.setIfInBounds_toArray, List.set_cons_succ, List.set_cons_zero]; rfl, ?_⟩; (have d0 := bcell h9 c0; have d1 := bcell h9 c1; have d2 := bcell h9 c2; have d3 := bcell h9 c3; unfold Oper.quietAt; go_simp; first | done | with_reducible exact rfl | with_reducible exact ⟨rfl, rfl⟩ | with_reducible exact Cop.bcalls h9 (HV.out _) | with_reducible exact Cop.bcalls h9 (HF.out _))))); refine Cop.gq_end ?_
          intro w2 b2
          have c0 := bcell b2 c0
          have c1 := bcell b2 c1
          have c2 := bcell b2 c2
          have c3 := bcell b2 c3
          have bb := bb.trans (b2.mono bb.size)
          clear b2
          have q3 : IntKind.i64.wrap (L * 6) = L * 6 := by rw [IntKind.wrap_i64]; omega
          have q4 : IntKind.i64.wrap (I * 64) = I * 64 := by rw [IntKind.wrap_i64]; omega
          have q5 : IntKind.i64.wrap (I * 64 + 1) = I * 64 + 1 := by rw [IntKind.wrap_i64]; omega
          have q6 : IntKind.i64.wrap (I * 2 ^ 6) = I * 64 := by rw [IntKind.wrap_i64]; omega
          go_wp2
          (refine Cop.region_gq 17 (by kernel_rfl) (by kernel_rfl) ?_)
          (repeat (first | (refine Cop.gq_skip rfl _ (by simp only [Act.put, List.setIfInBounds_toArray, List.set_cons_succ, List.set_cons_zero]; rfl) ?_) | (refine Cop.gq_val rfl ?_; apply Exists.intro; refine ⟨fun w9 h9 => ?_, _, by simp only [Act.put, List.setIfInBounds_toArray, List.set_cons_succ, List.set_cons_zero]; rfl, ?_⟩; (have d0 := bcell h9 c0; have d1 := bcell h9 c1; have d2 := bcell h9 c2; have d3 := bcell h9 c3; unfold Oper.quietAt; go_simp; first | done | with_reducible exact rfl | with_reducible exact ⟨rfl, rfl⟩ | with_reducible exact Cop.bcalls h9 (HW.out _))))); refine Cop.gq_end ?_
          intro w3 b3
          go_wp2
          go_ret
          exact ⟨rfl, bb.trans (b3.mono bb.size)⟩
set_option maxHeartbeats 4000000 in
theorem tvb_6 (L I : Int) (r : Bool) (hr : tvo 6 L I = r) (w : World) : Calls Try.prog 9 #[.agg #[.int .i64 6, .int .i64 L, .int .i64 I, .int .i64 1]] w fun e w' => e = .returned (.bool r) ∧ Below w.heap.size w w' := by
  have HR := Lib.hid hr
  have HV := Lib.hid (fun w' => height_b 6 true (by decide) w')
  have HF := Lib.hid (fun w' => full_b 6 (by decide) 64 (by decide) w')
  clear hr
  go_enter Try.func9, Try.ntmps9
  go_wp2
  first | refine Cop.wl_world fun w1 hw1 => ?_ | refine Cop.calls_world fun w1 hw1 => ?_ | refine Cop.exit_world fun w1 hw1 => ?_ | refine Cop.code_world fun w1 hw1 => ?_
  obtain ⟨c0, c1, c2, c3⟩ : w1.cell? ⟨w.heap.size, 0, none⟩ = some (.int .i64 6) ∧ w1.cell? ⟨w.heap.size, 1, none⟩ = some (.int .i64 L) ∧ w1.cell? ⟨w.heap.size, 2, none⟩ = some (.int .i64 I) ∧ w1.cell? ⟨w.heap.size, 3, none⟩ = some (.int .i64 1) := by rw [← hw1]; exact row4 (at_new _ _ _ rfl)
  have bb : Below w.heap.size w w1 := by rw [← hw1]; exact (Below.refl _ _).alloc (Nat.le_refl _) _
  clear hw1
  by_cases l0 : L < 0
  · have e0 : decide (L < 0) = true := decide_eq_true l0
    (refine Cop.region_gq 32 (by kernel_rfl) (by kernel_rfl) ?_)
    (repeat (first | (refine Cop.gq_skip rfl _ (by simp only [Act.put, List.setIfInBounds_toArray, List.set_cons_succ, List.set_cons_zero]; rfl) ?_) | (refine Cop.gq_val rfl ?_; apply Exists.intro; refine ⟨fun w9 h9 => ?_, _, by simp only [Act.put, List.setIfInBounds_toArray, List.set_cons_succ, List.set_cons_zero]; rfl, ?_⟩; (have d0 := bcell h9 c0; have d1 := bcell h9 c1; have d2 := bcell h9 c2; have d3 := bcell h9 c3; unfold Oper.quietAt; go_simp; first | done | with_reducible exact rfl | with_reducible exact ⟨rfl, rfl⟩ | with_reducible exact Cop.bcalls h9 (HV.out _) | with_reducible exact Cop.bcalls h9 (HF.out _))))); refine Cop.gq_end ?_
    intro w2 b2
    go_wp2
    go_ret
    exact ⟨ret_bool (by rw [← HR.out]; simp [tvo]; omega), bb.trans (b2.mono bb.size)⟩
  · have e0 : decide (L < 0) = false := decide_eq_false l0
    by_cases l1 : 48 < L
    · have e1 : decide (48 < L) = true := decide_eq_true l1
      (refine Cop.region_gq 32 (by kernel_rfl) (by kernel_rfl) ?_)
      (repeat (first | (refine Cop.gq_skip rfl _ (by simp only [Act.put, List.setIfInBounds_toArray, List.set_cons_succ, List.set_cons_zero]; rfl) ?_) | (refine Cop.gq_val rfl ?_; apply Exists.intro; refine ⟨fun w9 h9 => ?_, _, by simp only [Act.put, List.setIfInBounds_toArray, List.set_cons_succ, List.set_cons_zero]; rfl, ?_⟩; (have d0 := bcell h9 c0; have d1 := bcell h9 c1; have d2 := bcell h9 c2; have d3 := bcell h9 c3; unfold Oper.quietAt; go_simp; first | done | with_reducible exact rfl | with_reducible exact ⟨rfl, rfl⟩ | with_reducible exact Cop.bcalls h9 (HV.out _) | with_reducible exact Cop.bcalls h9 (HF.out _))))); refine Cop.gq_end ?_
      intro w2 b2
      go_wp2
      go_ret
      exact ⟨ret_bool (by rw [← HR.out]; simp [tvo]; omega), bb.trans (b2.mono bb.size)⟩
    · have e1 : decide (48 < L) = false := decide_eq_false l1
      by_cases i0 : I < 0
      · have e2 : decide (I < 0) = true := decide_eq_true i0
        (refine Cop.region_gq 32 (by kernel_rfl) (by kernel_rfl) ?_)
        (repeat (first | (refine Cop.gq_skip rfl _ (by simp only [Act.put, List.setIfInBounds_toArray, List.set_cons_succ, List.set_cons_zero]; rfl) ?_) | (refine Cop.gq_val rfl ?_; apply Exists.intro; refine ⟨fun w9 h9 => ?_, _, by simp only [Act.put, List.setIfInBounds_toArray, List.set_cons_succ, List.set_cons_zero]; rfl, ?_⟩; (have d0 := bcell h9 c0; have d1 := bcell h9 c1; have d2 := bcell h9 c2; have d3 := bcell h9 c3; unfold Oper.quietAt; go_simp; first | done | with_reducible exact rfl | with_reducible exact ⟨rfl, rfl⟩ | with_reducible exact Cop.bcalls h9 (HV.out _) | with_reducible exact Cop.bcalls h9 (HF.out _))))); refine Cop.gq_end ?_
        intro w2 b2
        go_wp2
        go_ret
        exact ⟨ret_bool (by rw [← HR.out]; simp [tvo]; omega), bb.trans (b2.mono bb.size)⟩
      · have e2 : decide (I < 0) = false := decide_eq_false i0
        (refine Cop.region_gq 32 (by kernel_rfl) (by kernel_rfl) ?_)
        (repeat (first | (refine Cop.gq_skip rfl _ (by simp only [Act.put, List.setIfInBounds_toArray, List.set_cons_succ, List.set_cons_zero]; rfl) ?_) | (refine Cop.gq_val rfl ?_; apply Exists.intro; refine ⟨fun w9 h9 => ?_, _, by simp only [Act.put, List.setIfInBounds_toArray, List.set_cons_succ, List.set_cons_zero]; rfl, ?_⟩; (have d0 := bcell h9 c0; have d1 := bcell h9 c1; have d2 := bcell h9 c2; have d3 := bcell h9 c3; unfold Oper.quietAt; go_simp; first | done | with_reducible exact rfl | with_reducible exact ⟨rfl, rfl⟩ | with_reducible exact Cop.bcalls h9 (HV.out _) | with_reducible exact Cop.bcalls h9 (HF.out _))))); refine Cop.gq_end ?_
        intro w2 b2
        have c0 := bcell b2 c0
        have c1 := bcell b2 c1
        have c2 := bcell b2 c2
        have c3 := bcell b2 c3
        by_cases l2 : 48 < L * 6
        · have e3 : decide (48 < L * 6) = true := decide_eq_true l2
          go_wp2
          go_ret
          exact ⟨ret_bool (by rw [← HR.out]; simp [tvo]; omega), bb.trans (b2.mono bb.size)⟩
        · have e3 : decide (48 < L * 6) = false := decide_eq_false l2
          by_cases i1 : 4398046511104 < I
          · have e4 : decide (4398046511104 < I) = true := decide_eq_true i1
            go_wp2
            go_ret
            exact ⟨ret_bool (by rw [← HR.out]; rw [tvo, vok_big _ _ (by show (281474976710656 : Int) ≤ I * 64; omega), Bool.and_false]), bb.trans (b2.mono bb.size)⟩
          · have e4 : decide (4398046511104 < I) = false := decide_eq_false i1
            have HW := Lib.hid (fun w' => valid_b (L * 6) (I * 64) w')
            have HE := Lib.hid (show vok (L * 6) (I * 64) = r by rw [← HR.out, tvo, decide_eq_true (by omega), Bool.true_and]; rfl)
            rw [HE.out] at HW
            go_wp2_with fail
            refine (HW.out _).mono ?_
            rintro e w3 ⟨rfl, b3⟩
            go_wp2
            go_ret
            exact ⟨rfl, (bb.trans (b2.mono bb.size)).trans (b3.mono (bb.trans (b2.mono bb.size)).size)⟩
end Go.Proofs.Ytfhffldgjepeaaa
