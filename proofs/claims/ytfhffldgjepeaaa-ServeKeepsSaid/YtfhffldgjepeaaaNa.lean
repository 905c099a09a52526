import Derived.Test.YtfhffldgjepeaaaArr
import Derived.Test.YtfhffldgjepeaaaRows
namespace Go.Proofs.Ytfhffldgjepeaaa
open Go.RowKit Cop
set_option linter.unusedVariables false
set_option linter.unusedSimpArgs false
theorem row2 {w : World} {g : Nat} {a b : Value} {t : TypeId} (h : w.heap[g]? = some (.cells #[a, b] t (0, 0))) : w.cell? ⟨g, 0, none⟩ = some a ∧ w.cell? ⟨g, 1, none⟩ = some b := ⟨row_cell h 0, row_cell h 1⟩
/-- A place in the tree. -/
def vok (l i : Int) : Bool := decide (0 ≤ l) && decide (l ≤ 48) && decide (0 ≤ i) && decide (i < 281474976710656 / 2 ^ l.toNat)
theorem vok_nat (l i : Nat) (hl : l ≤ 48) : vok l i = decide ((i : Int) < 281474976710656 / 2 ^ l) := by
  simp [vok, show (l : Int) ≤ 48 from by omega]
set_option maxHeartbeats 4000000 in
theorem valid_a (l i : Int) (w : World) :
    Calls Try.prog 17 #[.agg #[.int .i64 l, .int .i64 i]] w fun e w' => e = .returned (.bool (vok l i)) ∧ Below w.heap.size w w' := by
  generalize hr : vok l i = r
  have HR := Lib.hid hr
  clear hr
  go_enter Try.func17, Try.ntmps17
  go_wp2
  first | refine Cop.wl_world fun w1 hw1 => ?_ | refine Cop.calls_world fun w1 hw1 => ?_ | refine Cop.exit_world fun w1 hw1 => ?_ | refine Cop.code_world fun w1 hw1 => ?_
  obtain ⟨c0, c1⟩ : w1.cell? ⟨w.heap.size, 0, none⟩ = some (.int .i64 l) ∧ w1.cell? ⟨w.heap.size, 1, none⟩ = some (.int .i64 i) := by rw [← hw1]; exact row2 (at_new _ _ _ rfl)
  have bb : Below w.heap.size w w1 := by rw [← hw1]; exact (Below.refl _ _).alloc (Nat.le_refl _) _
  clear hw1
  by_cases hl0 : 0 ≤ l
  · by_cases hl1 : l ≤ 48
    · by_cases hi0 : 0 ≤ i
      · obtain ⟨l, rfl⟩ : ∃ n : Nat, l = n := ⟨l.toNat, by omega⟩
        obtain ⟨i, rfl⟩ : ∃ n : Nat, i = n := ⟨i.toNat, by omega⟩
        (refine Cop.region_shut_tail 21 (by kernel_rfl) (by kernel_rfl) ?_; simp only [List.take_succ_cons, List.take_zero, List.drop_succ_cons, List.drop_zero]; repeat (refine Cop.shut_step (fun K hK => ?_); go_simp; refine hK _ ?_; clear hK K); try refine Cop.shut_list ?_)
        obtain ⟨z, hz⟩ : ∃ z, decide ((i : Int) < 281474976710656 / 2 ^ l) = z := ⟨_, rfl⟩
        rw [hz]
        have HZ := Lib.hid hz
        clear hz
        go_wp2
        go_ret
        exact ⟨ret_bool (by rw [← HR.out, ← HZ.out, vok_nat l i (by omega)]), bb.drew⟩
      · (refine Cop.region_shut_tail 21 (by kernel_rfl) (by kernel_rfl) ?_; simp only [List.take_succ_cons, List.take_zero, List.drop_succ_cons, List.drop_zero]; repeat (refine Cop.shut_step (fun K hK => ?_); go_simp; refine hK _ ?_; clear hK K); try refine Cop.shut_list ?_)
        go_wp2
        go_ret
        exact ⟨ret_bool (by rw [← HR.out]; simp [vok]; omega), bb.drew⟩
    · (refine Cop.region_shut_tail 21 (by kernel_rfl) (by kernel_rfl) ?_; simp only [List.take_succ_cons, List.take_zero, List.drop_succ_cons, List.drop_zero]; repeat (refine Cop.shut_step (fun K hK => ?_); go_simp; refine hK _ ?_; clear hK K); try refine Cop.shut_list ?_)
      go_wp2
      go_ret
      exact ⟨ret_bool (by rw [← HR.out]; simp [vok]; omega), bb.drew⟩
  · (refine Cop.region_shut_tail 21 (by kernel_rfl) (by kernel_rfl) ?_; simp only [List.take_succ_cons, List.take_zero, List.drop_succ_cons, List.drop_zero]; repeat (refine Cop.shut_step (fun K hK => ?_); go_simp; refine hK _ ?_; clear hK K); try refine Cop.shut_list ?_)
    go_wp2
    go_ret
    exact ⟨ret_bool (by rw [← HR.out]; simp [vok]; omega), bb.drew⟩
set_option maxHeartbeats 4000000 in
theorem valid_b (l i : Int) (w : World) :
    Calls Try.prog 15 #[.agg #[.int .i64 l, .int .i64 i]] w fun e w' => e = .returned (.bool (vok l i)) ∧ Below w.heap.size w w' := by
  have b1 : Below w.heap.size w (w.alloc (.cells #[.int .i64 l, .int .i64 i] 51)) := (Below.refl _ _).alloc (Nat.le_refl _) _
  generalize hr : vok l i = r
  have HR := Lib.hid hr
  clear hr
  by_cases hl0 : 0 ≤ l
  · by_cases hl1 : l ≤ 48
    · by_cases hi0 : 0 ≤ i
      · obtain ⟨l, rfl⟩ : ∃ n : Nat, l = n := ⟨l.toNat, by omega⟩
        obtain ⟨i, rfl⟩ : ∃ n : Nat, i = n := ⟨i.toNat, by omega⟩
        go_enter Try.func15, Try.ntmps15
        go_wp2
        go_ret
        exact ⟨ret_bool (by rw [← HR.out, vok_nat l i (by omega)]), b1⟩
      · go_enter Try.func15, Try.ntmps15
        go_wp2
        go_ret
        exact ⟨ret_bool (by rw [← HR.out]; simp [vok]; omega), b1⟩
    · go_enter Try.func15, Try.ntmps15
      go_wp2
      go_ret
      exact ⟨ret_bool (by rw [← HR.out]; simp [vok]; omega), b1⟩
  · go_enter Try.func15, Try.ntmps15
    go_wp2
    go_ret
    exact ⟨ret_bool (by rw [← HR.out]; simp [vok]; omega), b1⟩
end Go.Proofs.Ytfhffldgjepeaaa
