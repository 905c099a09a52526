import Derived.Test.YtcjnheabkdalbaaNb
namespace Go.Proofs.Ytcjnheabkdalbaa
open Go.RowKit Cop
set_option linter.unusedVariables false
set_option linter.unusedSimpArgs false
/-- One place lies within another. -/
def wit (l i m j : Int) : Bool := vok l i && vok m j && decide (l ≤ m) && decide (j = i / 2 ^ (m - l).toNat)
theorem vok_pos {l i : Int} (h : vok l i = true) : 0 ≤ l ∧ 0 ≤ i := by
  simp only [vok, Bool.and_eq_true, decide_eq_true_eq] at h
  omega
set_option maxHeartbeats 4000000 in
theorem within_a (l i m j : Int) (w : World) :
    Calls Try.prog 27 #[.agg #[.int .i64 l, .int .i64 i], .agg #[.int .i64 m, .int .i64 j]] w fun e w' => e = .returned (.bool (wit l i m j)) ∧ Below w.heap.size w w' := by
  have HV := Lib.hid (fun w' => valid_a l i w')
  have HU := Lib.hid (fun w' => valid_a m j w')
  obtain ⟨r, hr⟩ : ∃ r, wit l i m j = r := ⟨_, rfl⟩
  obtain ⟨b, hb⟩ : ∃ b, vok l i = b := ⟨_, rfl⟩
  obtain ⟨c, hc⟩ : ∃ c, vok m j = c := ⟨_, rfl⟩
  rw [hb] at HV
  rw [hc] at HU
  rw [hr]
  have HR := Lib.hid hr
  have HB := Lib.hid hb
  have HC := Lib.hid hc
  clear hr hb hc
  go_enter Try.func27, Try.ntmps27
  go_wp2
  first | refine Cop.wl_world fun w1 hw1 => ?_ | refine Cop.calls_world fun w1 hw1 => ?_ | refine Cop.exit_world fun w1 hw1 => ?_ | refine Cop.code_world fun w1 hw1 => ?_
  have r1 : w1.heap[w.heap.size]? = some (.cells #[.int .i64 l, .int .i64 i] 31 (0, 0)) := by rw [← hw1]; (repeat (first | refine Cop.at_new _ _ _ (by simp) | refine Cop.at_old _ _ _ (by simp <;> omega) ?_ | refine Cop.at_old _ _ _ (by simp) ?_))
  have r2 : w1.heap[w.heap.size + 1]? = some (.cells #[.int .i64 m, .int .i64 j] 31 (0, 0)) := by rw [← hw1]; (repeat (first | refine Cop.at_new _ _ _ (by simp) | refine Cop.at_old _ _ _ (by simp <;> omega) ?_ | refine Cop.at_old _ _ _ (by simp) ?_))
  have b1 : Below w.heap.size w w1 := by rw [← hw1]; exact ((Below.refl _ _).alloc (Nat.le_refl _) _).alloc (by simp) _
  clear hw1
  obtain ⟨c0, c1⟩ := row2 r1
  obtain ⟨c2, c3⟩ := row2 r2
  cases b with
  | false =>
    (refine Cop.region_gq 29 (by kernel_rfl) (by kernel_rfl) ?_)
    (repeat (first | (refine Cop.gq_skip rfl _ (by simp only [Act.put, List.setIfInBounds_toArray, List.set_cons_succ, List.set_cons_zero]; rfl) ?_) | (refine Cop.gq_val rfl ?_; apply Exists.intro; refine ⟨fun w9 h9 => ?_, _, by simp only [Act.put, List.setIfInBounds_toArray, List.set_cons_succ, List.set_cons_zero]; rfl, ?_⟩; (have d0 := bcell h9 c0; have d1 := bcell h9 c1; have d2 := bcell h9 c2; have d3 := bcell h9 c3; unfold Oper.quietAt; go_simp; first | done | with_reducible exact rfl | with_reducible exact ⟨rfl, rfl⟩ | with_reducible exact Cop.bcalls h9 (HV.out _) | with_reducible exact Cop.bcalls h9 (HU.out _))))); refine Cop.gq_end ?_
    intro w2 b2
    go_wp2
    go_ret
    exact ⟨ret_bool (by rw [← HR.out]; simp [wit, HB.out, HC.out]), b1.trans (b2.mono b1.size)⟩
  | true =>
   cases c with
   | false =>
    (refine Cop.region_gq 29 (by kernel_rfl) (by kernel_rfl) ?_)
    (repeat (first | (refine Cop.gq_skip rfl _ (by simp only [Act.put, List.setIfInBounds_toArray, List.set_cons_succ, List.set_cons_zero]; rfl) ?_) | (refine Cop.gq_val rfl ?_; apply Exists.intro; refine ⟨fun w9 h9 => ?_, _, by simp only [Act.put, List.setIfInBounds_toArray, List.set_cons_succ, List.set_cons_zero]; rfl, ?_⟩; (have d0 := bcell h9 c0; have d1 := bcell h9 c1; have d2 := bcell h9 c2; have d3 := bcell h9 c3; unfold Oper.quietAt; go_simp; first | done | with_reducible exact rfl | with_reducible exact ⟨rfl, rfl⟩ | with_reducible exact Cop.bcalls h9 (HV.out _) | with_reducible exact Cop.bcalls h9 (HU.out _))))); refine Cop.gq_end ?_
    intro w2 b2
    go_wp2
    go_ret
    exact ⟨ret_bool (by rw [← HR.out]; simp [wit, HB.out, HC.out]), b1.trans (b2.mono b1.size)⟩
   | true =>
    obtain ⟨l, rfl⟩ : ∃ n : Nat, l = n := ⟨l.toNat, by have := vok_pos HB.out; omega⟩
    obtain ⟨i, rfl⟩ : ∃ n : Nat, i = n := ⟨i.toNat, by have := vok_pos HB.out; omega⟩
    obtain ⟨m, rfl⟩ : ∃ n : Nat, m = n := ⟨m.toNat, by have := vok_pos HC.out; omega⟩
    obtain ⟨j, rfl⟩ : ∃ n : Nat, j = n := ⟨j.toNat, by have := vok_pos HC.out; omega⟩
    by_cases hlm : l ≤ m
    · obtain ⟨d, rfl⟩ : ∃ d, m = l + d := ⟨m - l, by omega⟩
      have hd : (d : Int) ≤ 48 := by have := (vok_num HC.out).1; omega
      have hl : (l : Int) ≤ 48 := by have := (vok_num HB.out).1; omega
      clear hlm
      have hle : (l : Int) ≤ (l : Int) + (d : Int) := by omega
      have hsub : (l : Int) + (d : Int) - (l : Int) = (d : Int) := by omega
      have hwd : IntKind.i64.wrap (d : Int) = (d : Int) := wrap_small d (by omega)
      rw [Int.natCast_add] at c2 HU
      by_cases hj : (j : Int) = (i : Int) / 2 ^ d
      · have HJ := Lib.hid hj
        have hq : ((j : Int) = (i : Int) / 2 ^ d) = True := eq_true hj
        clear hj
        (refine Cop.region_gq 29 (by kernel_rfl) (by kernel_rfl) ?_)
        (repeat (first | (refine Cop.gq_skip rfl _ (by simp only [Act.put, List.setIfInBounds_toArray, List.set_cons_succ, List.set_cons_zero]; rfl) ?_) | (refine Cop.gq_val rfl ?_; apply Exists.intro; refine ⟨fun w9 h9 => ?_, _, by simp only [Act.put, List.setIfInBounds_toArray, List.set_cons_succ, List.set_cons_zero]; rfl, ?_⟩; (have d0 := bcell h9 c0; have d1 := bcell h9 c1; have d2 := bcell h9 c2; have d3 := bcell h9 c3; unfold Oper.quietAt; go_simp; first | done | with_reducible exact rfl | with_reducible exact ⟨rfl, rfl⟩ | with_reducible exact Cop.bcalls h9 (HV.out _) | with_reducible exact Cop.bcalls h9 (HU.out _))))); refine Cop.gq_end ?_
        intro w2 b2
        go_wp2
        go_ret
        exact ⟨ret_bool (by rw [← HR.out]; simp only [wit, HB.out, HC.out, Bool.true_and, show (((l + d : Nat) : Int) - (l : Int)).toNat = d from by omega]; simp; exact ⟨by omega, HJ.out⟩), b1.trans (b2.mono b1.size)⟩
      · have HJ := Lib.hid hj
        have hq : ((j : Int) = (i : Int) / 2 ^ d) = False := eq_false hj
        clear hj
        (refine Cop.region_gq 29 (by kernel_rfl) (by kernel_rfl) ?_)
        (repeat (first | (refine Cop.gq_skip rfl _ (by simp only [Act.put, List.setIfInBounds_toArray, List.set_cons_succ, List.set_cons_zero]; rfl) ?_) | (refine Cop.gq_val rfl ?_; apply Exists.intro; refine ⟨fun w9 h9 => ?_, _, by simp only [Act.put, List.setIfInBounds_toArray, List.set_cons_succ, List.set_cons_zero]; rfl, ?_⟩; (have d0 := bcell h9 c0; have d1 := bcell h9 c1; have d2 := bcell h9 c2; have d3 := bcell h9 c3; unfold Oper.quietAt; go_simp; first | done | with_reducible exact rfl | with_reducible exact ⟨rfl, rfl⟩ | with_reducible exact Cop.bcalls h9 (HV.out _) | with_reducible exact Cop.bcalls h9 (HU.out _))))); refine Cop.gq_end ?_
        intro w2 b2
        go_wp2
        go_ret
        exact ⟨ret_bool (by rw [← HR.out]; simp only [wit, HB.out, HC.out, Bool.true_and, show (((l + d : Nat) : Int) - (l : Int)).toNat = d from by omega]; simp; exact fun _ => HJ.out), b1.trans (b2.mono b1.size)⟩
    · have hlm' : ¬ ((l : Int) ≤ (m : Int)) := by omega
      clear hlm
      (refine Cop.region_gq 29 (by kernel_rfl) (by kernel_rfl) ?_)
      (repeat (first | (refine Cop.gq_skip rfl _ (by simp only [Act.put, List.setIfInBounds_toArray, List.set_cons_succ, List.set_cons_zero]; rfl) ?_) | (refine Cop.gq_val rfl ?_; apply Exists.intro; refine ⟨fun w9 h9 => ?_, _, by simp only [Act.put, List.setIfInBounds_toArray, List.set_cons_succ, List.set_cons_zero]; rfl, ?_⟩; (have d0 := bcell h9 c0; have d1 := bcell h9 c1; have d2 := bcell h9 c2; have d3 := bcell h9 c3; unfold Oper.quietAt; go_simp; first | done | with_reducible exact rfl | with_reducible exact ⟨rfl, rfl⟩ | with_reducible exact Cop.bcalls h9 (HV.out _) | with_reducible exact Cop.bcalls h9 (HU.out _))))); refine Cop.gq_end ?_
      intro w2 b2
      go_wp2
      go_ret
      exact ⟨ret_bool (by rw [← HR.out]; simp only [wit, HB.out, HC.out]; simp; omega), b1.trans (b2.mono b1.size)⟩
end Go.Proofs.Ytcjnheabkdalbaa
