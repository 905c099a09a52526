/- node.Valid, span, Leaves. -/
import Derived.Test.YtcjnheabkdalbaaDoorNq
namespace Go.Proofs.YtcjnheabkdalbaaDoor
open Go.RowKit Cop
set_option linter.unusedVariables false
set_option linter.unusedSimpArgs false
theorem row2 {w : World} {g : Nat} {a b : Value} {t : TypeId} (h : w.heap[g]? = some (.cells #[a, b] t (0, 0))) : w.cell? ⟨g, 0, none⟩ = some a ∧ w.cell? ⟨g, 1, none⟩ = some b := ⟨row_cell h 0, row_cell h 1⟩
/-- A place in the tree. -/
def vok (l i : Int) : Bool := decide (0 ≤ l) && decide (l ≤ 48) && decide (0 ≤ i) && decide (i < 281474976710656 / 2 ^ l.toNat)
theorem vok_nat (l i : Nat) (hl : l ≤ 48) : vok l i = decide ((i : Int) < 281474976710656 / 2 ^ l) := by
  simp [vok, show (l : Int) ≤ 48 from by omega]
set_option maxHeartbeats 4000000 in
theorem valid_a (l i : Int) (w : World) :
    Calls Tryd.prog 12 #[.agg #[.int .i64 l, .int .i64 i]] w fun e w' => e = .returned (.bool (vok l i)) ∧ Below w.heap.size w w' := by
  generalize hr : vok l i = r
  have HR := Lib.hid hr
  clear hr
  go_enter Tryd.func12, Tryd.ntmps12
  go_wp2
  first | refine Cop.wl_world fun w1 hw1 => ?_ | refine Cop.calls_world fun w1 hw1 => ?_ | refine Cop.exit_world fun w1 hw1 => ?_ | refine Cop.code_world fun w1 hw1 => ?_
  obtain ⟨c0, c1⟩ : w1.cell? ⟨w.heap.size, 0, none⟩ = some (.int .i64 l) ∧ w1.cell? ⟨w.heap.size, 1, none⟩ = some (.int .i64 i) := by rw [← hw1]; exact row2 (at_new _ _ _ rfl)
  have bb : Below w.heap.size w w1 := by rw [← hw1]; exact (Below.refl _ _).alloc (Nat.le_refl _) _
  clear hw1
  by_cases hl0 : 0 ≤ l
  · by_cases hl1 : l ≤ 48
    · by_cases hi0 : 0 ≤ i
      · obtain ⟨l, rfl⟩ : ∃ n : Nat, l = n := ⟨l.toNat, by omega⟩
        obtain ⟨i, rfl⟩ : ∃ n : Nat, i = n := ⟨i.toNat, by omega⟩
        (refine Cop.region_shut_tail 21 (by kernel_rfl) (by kernel_rfl) ?_; simp only [List.take_succ_cons, List.take_zero, List.drop_succ_cons, List.drop_zero]; repeat (refine Cop.shut_step (fun K hK => ?_); go_simp; refine hK _ ?_; clear hK K); try refine Cop.shut_list ?_)
        obtain ⟨z, hz⟩ : ∃ z, decide ((i : Int) < 281474976710656 / 2 ^ l) = z := ⟨_, rfl⟩
        rw [hz]
        have HZ := Lib.hid hz
        clear hz
        go_wp2
        go_ret
        exact ⟨ret_bool (by rw [← HR.out, ← HZ.out, vok_nat l i (by omega)]), bb.drew⟩
      · (refine Cop.region_shut_tail 21 (by kernel_rfl) (by kernel_rfl) ?_; simp only [List.take_succ_cons, List.take_zero, List.drop_succ_cons, List.drop_zero]; repeat (refine Cop.shut_step (fun K hK => ?_); go_simp; refine hK _ ?_; clear hK K); try refine Cop.shut_list ?_)
        go_wp2
        go_ret
        exact ⟨ret_bool (by rw [← HR.out]; simp [vok]; omega), bb.drew⟩
    · (refine Cop.region_shut_tail 21 (by kernel_rfl) (by kernel_rfl) ?_; simp only [List.take_succ_cons, List.take_zero, List.drop_succ_cons, List.drop_zero]; repeat (refine Cop.shut_step (fun K hK => ?_); go_simp; refine hK _ ?_; clear hK K); try refine Cop.shut_list ?_)
      go_wp2
      go_ret
      exact ⟨ret_bool (by rw [← HR.out]; simp [vok]; omega), bb.drew⟩
  · (refine Cop.region_shut_tail 21 (by kernel_rfl) (by kernel_rfl) ?_; simp only [List.take_succ_cons, List.take_zero, List.drop_succ_cons, List.drop_zero]; repeat (refine Cop.shut_step (fun K hK => ?_); go_simp; refine hK _ ?_; clear hK K); try refine Cop.shut_list ?_)
    go_wp2
    go_ret
    exact ⟨ret_bool (by rw [← HR.out]; simp [vok]; omega), bb.drew⟩
theorem vok_num {l i : Nat} (h : vok l i = true) : l ≤ 48 ∧ i * 2 ^ l + 2 ^ l ≤ 281474976710656 := by
  simp only [vok, Bool.and_eq_true, decide_eq_true_eq] at h
  obtain ⟨⟨⟨_, h1⟩, _⟩, h3⟩ := h
  refine ⟨by omega, ?_⟩
  have e : (281474976710656 / 2 ^ l : Int) = ((281474976710656 / 2 ^ l : Nat) : Int) := by simp
  rw [Int.toNat_natCast, e] at h3
  have h4 : i + 1 ≤ 281474976710656 / 2 ^ l := by omega
  have h5 := (Nat.le_div_iff_mul_le (Nat.two_pow_pos l)).1 h4
  rw [Nat.add_mul, Nat.one_mul] at h5
  exact h5
theorem wrap_small (n : Nat) (h : n ≤ 9223372036854775807) : IntKind.i64.wrap (n : Int) = (n : Int) := by
  rw [IntKind.wrap_i64]; omega
theorem span_nums (l i : Nat) (h2 : i * 2 ^ l + 2 ^ l ≤ 281474976710656) : IntKind.i64.wrap ((i : Int) * 2 ^ l) = ((i * 2 ^ l : Nat) : Int) ∧ IntKind.i64.wrap ((i : Int) + 1) = ((i + 1 : Nat) : Int) ∧
    IntKind.i64.wrap (((i + 1 : Nat) : Int) * 2 ^ l) = ((i * 2 ^ l + 2 ^ l : Nat) : Int) := by
  have h3 : i * 2 ^ l ≤ 9223372036854775807 := Nat.le_trans (Nat.le_trans (Nat.le_add_right _ _) h2) (by decide)
  have h4 : i * 2 ^ l + 2 ^ l ≤ 9223372036854775807 := Nat.le_trans h2 (by decide)
  have h6 : 1 ≤ 2 ^ l := Nat.two_pow_pos l
  have h5 : i + 1 ≤ 9223372036854775807 := Nat.le_trans (Nat.add_le_add (Nat.le_mul_of_pos_right _ h6) h6) h4
  refine ⟨?_, ?_, ?_⟩
  · rw [show (i : Int) * 2 ^ l = ((i * 2 ^ l : Nat) : Int) by simp, wrap_small _ h3]
  · rw [show (i : Int) + 1 = ((i + 1 : Nat) : Int) by simp, wrap_small _ h5]
  · rw [show (((i + 1 : Nat) : Int) * 2 ^ l) = ((i * 2 ^ l + 2 ^ l : Nat) : Int) by simp [Int.add_mul], wrap_small _ h4]
set_option maxHeartbeats 4000000 in
theorem span_a (l i : Nat) (w : World) (h : vok l i = true) :
    Calls Tryd.prog 13 #[.agg #[.int .i64 l, .int .i64 i]] w fun e w' => e = .returned (.agg #[.int .i64 (i * 2 ^ l : Nat), .int .i64 (i * 2 ^ l + 2 ^ l : Nat)]) ∧ Below w.heap.size w w' := by
  obtain ⟨h1, h2⟩ := vok_num h
  clear h
  obtain ⟨n1, n2, n3⟩ := span_nums l i h2
  generalize i * 2 ^ l = p at n1 n3 h2 ⊢
  generalize p + 2 ^ l = q at n3 h2 ⊢
  have W1 := Lib.hid n1
  have W2 := Lib.hid n2
  have W3 := Lib.hid n3
  clear n1 n2 n3
  go_enter Tryd.func13, Tryd.ntmps13
  go_wp2
  first | refine Cop.wl_world fun w1 hw1 => ?_ | refine Cop.calls_world fun w1 hw1 => ?_ | refine Cop.exit_world fun w1 hw1 => ?_ | refine Cop.code_world fun w1 hw1 => ?_
  obtain ⟨c0, c1⟩ : w1.cell? ⟨w.heap.size, 0, none⟩ = some (.int .i64 l) ∧ w1.cell? ⟨w.heap.size, 1, none⟩ = some (.int .i64 i) := by rw [← hw1]; exact row2 (at_old _ _ _ (by simp) (at_new _ _ _ rfl))
  have r2 : w1.heap[w.heap.size + 1]? = some (.cells #[.int .i64 0, .int .i64 0] 23 (0, 0)) := by rw [← hw1]; exact at_new _ _ _ (by simp)
  have bb : Below w.heap.size w w1 := by rw [← hw1]; exact ((Below.refl _ _).alloc (Nat.le_refl _) _).alloc (by simp) _
  clear hw1
  have hl1 : (l : Int) ≤ 48 := by omega
  (refine Cop.region_shut_tail 12 (by kernel_rfl) (by kernel_rfl) ?_; simp only [List.take_succ_cons, List.take_zero, List.drop_succ_cons, List.drop_zero]; repeat (refine Cop.shut_step (fun K hK => ?_); go_simp; refine hK _ ?_; clear hK K); try refine Cop.shut_list ?_)
  simp only [W1.out, W2.out, W3.out]
  refine wl_store_row rfl 23 _ _ rfl (w.heap.size + 1) rfl 23 #[.int .i64 0, .int .i64 0] #[.int .i64 p, .int .i64 q] rfl r2 (by kernel_rfl) rfl (by simp [Value.oneCell']) ?_
  go_wp2
  refine ret_row rfl rfl (w.heap.size + 1) rfl 23 _ (0, 0) _ (setRow_heap _ _ _ _ _ _ r2) Tryd.underlying23 rfl (by kernel_rfl) ⟨rfl, below_setRow bb.drew (by simp) _⟩
/-- What a place in the tree says of itself. -/
theorem leaves_ok (l i : Nat) (w : World) (h : vok l i = true) :
    Calls Tryd.prog 9 #[.agg #[.int .i64 l, .int .i64 i]] w fun e w' => e = .returned (.tuple #[.agg #[.int .i64 (i * 2 ^ l : Nat), .int .i64 (i * 2 ^ l + 2 ^ l : Nat)], .int .i64 0]) ∧ Below w.heap.size w w' := by
  have hv := fun w' => valid_a l i w'
  rw [h] at hv
  have hs := fun w' => span_a l i w' h
  generalize i * 2 ^ l = p at hs ⊢
  generalize p + 2 ^ l = q at hs ⊢
  have HV := Lib.hid hv
  have HS := Lib.hid hs
  clear hv hs h
  go_enter Tryd.func9, Tryd.ntmps9
  go_wp2_with fail
  first | refine Cop.wl_world fun w1 hw1 => ?_ | refine Cop.calls_world fun w1 hw1 => ?_ | refine Cop.exit_world fun w1 hw1 => ?_ | refine Cop.code_world fun w1 hw1 => ?_
  have r1 : w1.heap[w.heap.size]? = some (.cells #[.int .i64 l, .int .i64 i] 32 (0, 0)) := by rw [← hw1]; (repeat (first | refine Cop.at_new _ _ _ (by simp) | refine Cop.at_old _ _ _ (by simp <;> omega) ?_ | refine Cop.at_old _ _ _ (by simp) ?_))
  have r2 : w1.heap[w.heap.size + 1]? = some (.cells #[.int .i64 0, .int .i64 0] 23 (0, 0)) := by rw [← hw1]; exact at_new _ _ _ (by simp)
  have b1 : Below w.heap.size w w1 := by rw [← hw1]; exact ((Below.refl _ _).alloc (Nat.le_refl _) _).alloc (by simp) _
  have z1 : w.heap.size + 2 ≤ w1.heap.size := by rw [← hw1]; simp
  clear hw1
  refine (HV.out _).mono ?_
  rintro e w2 ⟨rfl, b2⟩
  have q1 := kept_row b2 r1
  go_wp2_with (first | refine wl_load_row rfl 32 _ rfl w.heap.size rfl 32 #[.int .i64 l, .int .i64 i] (0, 0) _ q1 Tryd.underlying32 rfl (by kernel_rfl) ?_)
  refine (HS.out _).mono ?_
  rintro e w3 ⟨rfl, b3⟩
  have q2 := kept_row b3 (kept_row b2 r2)
  go_wp2_with (first | refine wl_store_row rfl 23 _ _ rfl (w.heap.size + 1) rfl 23 #[.int .i64 0, .int .i64 0] #[.int .i64 p, .int .i64 q] rfl q2 (by kernel_rfl) rfl (by simp [Value.oneCell']) ?_)
  exact ret_row_tmp rfl rfl (w.heap.size + 1) rfl 23 _ (0, 0) _ (setRow_heap _ _ _ _ _ _ q2) Tryd.underlying23 rfl (by kernel_rfl) _ rfl ⟨rfl, below_setRow ((b1.trans (b2.mono (by omega))).trans (b3.mono (by have := b2.size; omega))) (by simp) _⟩
theorem vok_of {l i : Nat} (hl : l ≤ 48) (h : i * 2 ^ l + 2 ^ l ≤ 281474976710656) : vok l i = true := by
  rw [vok_nat l i hl, decide_eq_true_eq]
  have e : (281474976710656 / 2 ^ l : Int) = ((281474976710656 / 2 ^ l : Nat) : Int) := by simp
  rw [e]
  have h4 : i + 1 ≤ 281474976710656 / 2 ^ l := (Nat.le_div_iff_mul_le (Nat.two_pow_pos l)).2 (by rw [Nat.add_mul, Nat.one_mul]; exact h)
  omega
end Go.Proofs.YtcjnheabkdalbaaDoor
