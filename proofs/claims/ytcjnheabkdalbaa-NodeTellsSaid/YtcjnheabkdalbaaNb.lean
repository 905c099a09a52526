import Derived.Test.YtcjnheabkdalbaaNa
namespace Go.Proofs.Ytcjnheabkdalbaa
open Go.RowKit Cop
set_option linter.unusedVariables false
set_option linter.unusedSimpArgs false
theorem vok_num {l i : Nat} (h : vok l i = true) : l ≤ 48 ∧ i * 2 ^ l + 2 ^ l ≤ 281474976710656 := by
  simp only [vok, Bool.and_eq_true, decide_eq_true_eq] at h
  obtain ⟨⟨⟨_, h1⟩, _⟩, h3⟩ := h
  refine ⟨by omega, ?_⟩
  have e : (281474976710656 / 2 ^ l : Int) = ((281474976710656 / 2 ^ l : Nat) : Int) := by simp
  rw [Int.toNat_natCast, e] at h3
  have h4 : i + 1 ≤ 281474976710656 / 2 ^ l := by omega
  have h5 := (Nat.le_div_iff_mul_le (Nat.two_pow_pos l)).1 h4
  rw [Nat.add_mul, Nat.one_mul] at h5
  exact h5
theorem wrap_small (n : Nat) (h : n ≤ 9223372036854775807) : IntKind.i64.wrap (n : Int) = (n : Int) := by
  rw [IntKind.wrap_i64]; omega
theorem span_nums (l i : Nat) (h2 : i * 2 ^ l + 2 ^ l ≤ 281474976710656) : IntKind.i64.wrap ((i : Int) * 2 ^ l) = ((i * 2 ^ l : Nat) : Int) ∧ IntKind.i64.wrap ((i : Int) + 1) = ((i + 1 : Nat) : Int) ∧
    IntKind.i64.wrap (((i + 1 : Nat) : Int) * 2 ^ l) = ((i * 2 ^ l + 2 ^ l : Nat) : Int) := by
  have h3 : i * 2 ^ l ≤ 9223372036854775807 := Nat.le_trans (Nat.le_trans (Nat.le_add_right _ _) h2) (by decide)
  have h4 : i * 2 ^ l + 2 ^ l ≤ 9223372036854775807 := Nat.le_trans h2 (by decide)
  have h6 : 1 ≤ 2 ^ l := Nat.two_pow_pos l
  have h5 : i + 1 ≤ 9223372036854775807 := Nat.le_trans (Nat.add_le_add (Nat.le_mul_of_pos_right _ h6) h6) h4
  refine ⟨?_, ?_, ?_⟩
  · rw [show (i : Int) * 2 ^ l = ((i * 2 ^ l : Nat) : Int) by simp, wrap_small _ h3]
  · rw [show (i : Int) + 1 = ((i + 1 : Nat) : Int) by simp, wrap_small _ h5]
  · rw [show (((i + 1 : Nat) : Int) * 2 ^ l) = ((i * 2 ^ l + 2 ^ l : Nat) : Int) by simp [Int.add_mul], wrap_small _ h4]
set_option maxHeartbeats 4000000 in
theorem span_a (l i : Nat) (w : World) (h : vok l i = true) :
    Calls Try.prog 46 #[.agg #[.int .i64 l, .int .i64 i]] w fun e w' => e = .returned (.agg #[.int .i64 (i * 2 ^ l : Nat), .int .i64 (i * 2 ^ l + 2 ^ l : Nat)]) ∧ Below w.heap.size w w' := by
  obtain ⟨h1, h2⟩ := vok_num h
  clear h
  obtain ⟨n1, n2, n3⟩ := span_nums l i h2
  generalize i * 2 ^ l = p at n1 n3 h2 ⊢
  generalize p + 2 ^ l = q at n3 h2 ⊢
  have W1 := Lib.hid n1
  have W2 := Lib.hid n2
  have W3 := Lib.hid n3
  clear n1 n2 n3
  go_enter Try.func46, Try.ntmps46
  go_wp2
  first | refine Cop.wl_world fun w1 hw1 => ?_ | refine Cop.calls_world fun w1 hw1 => ?_ | refine Cop.exit_world fun w1 hw1 => ?_ | refine Cop.code_world fun w1 hw1 => ?_
  obtain ⟨c0, c1⟩ : w1.cell? ⟨w.heap.size, 0, none⟩ = some (.int .i64 l) ∧ w1.cell? ⟨w.heap.size, 1, none⟩ = some (.int .i64 i) := by rw [← hw1]; exact row2 (at_old _ _ _ (by simp) (at_new _ _ _ rfl))
  have r2 : w1.heap[w.heap.size + 1]? = some (.cells #[.int .i64 0, .int .i64 0] 46 (0, 0)) := by rw [← hw1]; exact at_new _ _ _ (by simp)
  have bb : Below w.heap.size w w1 := by rw [← hw1]; exact ((Below.refl _ _).alloc (Nat.le_refl _) _).alloc (by simp) _
  clear hw1
  have hl1 : (l : Int) ≤ 48 := by omega
  (refine Cop.region_shut_tail 12 (by kernel_rfl) (by kernel_rfl) ?_; simp only [List.take_succ_cons, List.take_zero, List.drop_succ_cons, List.drop_zero]; repeat (refine Cop.shut_step (fun K hK => ?_); go_simp; refine hK _ ?_; clear hK K); try refine Cop.shut_list ?_)
  simp only [W1.out, W2.out, W3.out]
  refine wl_store_row rfl 46 _ _ rfl (w.heap.size + 1) rfl 46 #[.int .i64 0, .int .i64 0] #[.int .i64 p, .int .i64 q] rfl r2 (by kernel_rfl) rfl (by simp [Value.oneCell']) ?_
  go_wp2
  refine ret_row rfl rfl (w.heap.size + 1) rfl 46 _ (0, 0) _ (setRow_heap _ _ _ _ _ _ r2) Try.underlying46 rfl (by kernel_rfl) ⟨rfl, below_setRow bb.drew (by simp) _⟩
set_option maxHeartbeats 4000000 in
theorem leaves_b (l i : Nat) (w : World) (h : vok l i = true) :
    Calls Try.prog 30 #[.agg #[.int .i64 l, .int .i64 i]] w fun e w' => e = .returned (.agg #[.int .i64 (i * 2 ^ l : Nat), .int .i64 (i * 2 ^ l + 2 ^ l : Nat)]) ∧ Below w.heap.size w w' := by
  obtain ⟨h1, h2⟩ := vok_num h
  clear h
  obtain ⟨n1, n2, n3⟩ := span_nums l i h2
  rw [show ∀ n, IntKind.i64.wrap n = wrap64 n from fun n => IntWalk.i64_left n] at n1 n2 n3
  rw [Int.natCast_add, show ((1 : Nat) : Int) = 1 from rfl] at n2 n3
  generalize i * 2 ^ l = p at n1 n3 h2 ⊢
  generalize p + 2 ^ l = q at n3 h2 ⊢
  go_enter Try.func30, Try.ntmps30
  have hl1 : (l : Int) ≤ 48 := by omega
  go_wp2
  exact ret_row rfl rfl (w.heap.size + 1) rfl 46 _ (0, 0) _ (at_new _ _ _ (by simp)) Try.underlying46 rfl (by kernel_rfl) ⟨rfl, ((Below.refl _ _).alloc (Nat.le_refl _) _).alloc (by simp) _⟩
/-- What a place in the tree says of itself. -/
theorem leaves_ok (l i : Nat) (w : World) (h : vok l i = true) :
    Calls Try.prog 22 #[.agg #[.int .i64 l, .int .i64 i]] w fun e w' => e = .returned (.tuple #[.agg #[.int .i64 (i * 2 ^ l : Nat), .int .i64 (i * 2 ^ l + 2 ^ l : Nat)], .int .i64 0]) ∧ Below w.heap.size w w' := by
  have hv := fun w' => valid_a l i w'
  rw [h] at hv
  have hs := fun w' => span_a l i w' h
  generalize i * 2 ^ l = p at hs ⊢
  generalize p + 2 ^ l = q at hs ⊢
  have HV := Lib.hid hv
  have HS := Lib.hid hs
  clear hv hs h
  go_enter Try.func22, Try.ntmps22
  go_wp2_with fail
  first | refine Cop.wl_world fun w1 hw1 => ?_ | refine Cop.calls_world fun w1 hw1 => ?_ | refine Cop.exit_world fun w1 hw1 => ?_ | refine Cop.code_world fun w1 hw1 => ?_
  have r1 : w1.heap[w.heap.size]? = some (.cells #[.int .i64 l, .int .i64 i] 31 (0, 0)) := by rw [← hw1]; (repeat (first | refine Cop.at_new _ _ _ (by simp) | refine Cop.at_old _ _ _ (by simp <;> omega) ?_ | refine Cop.at_old _ _ _ (by simp) ?_))
  have r2 : w1.heap[w.heap.size + 1]? = some (.cells #[.int .i64 0, .int .i64 0] 46 (0, 0)) := by rw [← hw1]; exact at_new _ _ _ (by simp)
  have b1 : Below w.heap.size w w1 := by rw [← hw1]; exact ((Below.refl _ _).alloc (Nat.le_refl _) _).alloc (by simp) _
  have z1 : w.heap.size + 2 ≤ w1.heap.size := by rw [← hw1]; simp
  clear hw1
  refine (HV.out _).mono ?_
  rintro e w2 ⟨rfl, b2⟩
  have q1 := kept_row b2 r1
  go_wp2_with (first | refine wl_load_row rfl 31 _ rfl w.heap.size rfl 31 #[.int .i64 l, .int .i64 i] (0, 0) _ q1 Try.underlying31 rfl (by kernel_rfl) ?_)
  refine (HS.out _).mono ?_
  rintro e w3 ⟨rfl, b3⟩
  have q2 := kept_row b3 (kept_row b2 r2)
  go_wp2_with (first | refine wl_store_row rfl 46 _ _ rfl (w.heap.size + 1) rfl 46 #[.int .i64 0, .int .i64 0] #[.int .i64 p, .int .i64 q] rfl q2 (by kernel_rfl) rfl (by simp [Value.oneCell']) ?_)
  exact ret_row_tmp rfl rfl (w.heap.size + 1) rfl 46 _ (0, 0) _ (setRow_heap _ _ _ _ _ _ q2) Try.underlying46 rfl (by kernel_rfl) _ rfl ⟨rfl, below_setRow ((b1.trans (b2.mono (by omega))).trans (b3.mono (by have := b2.size; omega))) (by simp) _⟩
theorem leaves_no (l i : Int) (w : World) (h : vok l i = false) :
    Calls Try.prog 22 #[.agg #[.int .i64 l, .int .i64 i]] w fun e w' => e = .returned (.tuple #[.agg #[.int .i64 0, .int .i64 0], .int .i64 2]) ∧ Below w.heap.size w w' := by
  have hv := fun w' => h ▸ valid_a l i w'
  have HV := Lib.hid hv
  clear hv h
  go_enter Try.func22, Try.ntmps22
  go_wp2_with fail
  first | refine Cop.wl_world fun w1 hw1 => ?_ | refine Cop.calls_world fun w1 hw1 => ?_ | refine Cop.exit_world fun w1 hw1 => ?_ | refine Cop.code_world fun w1 hw1 => ?_
  have r1 : w1.heap[w.heap.size]? = some (.cells #[.int .i64 l, .int .i64 i] 31 (0, 0)) := by rw [← hw1]; (repeat (first | refine Cop.at_new _ _ _ (by simp) | refine Cop.at_old _ _ _ (by simp <;> omega) ?_ | refine Cop.at_old _ _ _ (by simp) ?_))
  have r2 : w1.heap[w.heap.size + 1]? = some (.cells #[.int .i64 0, .int .i64 0] 46 (0, 0)) := by rw [← hw1]; exact at_new _ _ _ (by simp)
  have b1 : Below w.heap.size w w1 := by rw [← hw1]; exact ((Below.refl _ _).alloc (Nat.le_refl _) _).alloc (by simp) _
  have z1 : w.heap.size + 2 ≤ w1.heap.size := by rw [← hw1]; simp
  clear hw1
  refine (HV.out _).mono ?_
  rintro e w2 ⟨rfl, b2⟩
  have q1 := kept_row b2 r1
  have q2 := kept_row b2 r2
  go_wp2_with (first | refine wl_store_row rfl 46 _ _ rfl (w.heap.size + 1) rfl 46 #[.int .i64 0, .int .i64 0] #[.int .i64 0, .int .i64 0] rfl q2 (by kernel_rfl) rfl (by simp [Value.oneCell']) ?_)
  exact ret_row_tmp rfl rfl (w.heap.size + 1) rfl 46 _ (0, 0) _ (setRow_heap _ _ _ _ _ _ q2) Try.underlying46 rfl (by kernel_rfl) _ rfl ⟨rfl, below_setRow (b1.trans (b2.mono (by omega))) (by simp) _⟩
set_option maxHeartbeats 4000000 in
theorem below_a (l i : Int) (w : World) :
    Calls Try.prog 47 #[.agg #[.int .i64 l, .int .i64 i]] w fun e w' => e = .returned (.int .i64 (if vok l i = true then (if l = 48 then 40 else 0) else 2)) ∧ Below w.heap.size w w' := by
  have HV := Lib.hid (fun w' => valid_a l i w')
  obtain ⟨b, hb⟩ : ∃ b, vok l i = b := ⟨_, rfl⟩
  rw [hb] at HV ⊢
  clear hb
  go_enter Try.func47, Try.ntmps47
  go_wp2_with fail
  first | refine Cop.wl_world fun w1 hw1 => ?_ | refine Cop.calls_world fun w1 hw1 => ?_ | refine Cop.exit_world fun w1 hw1 => ?_ | refine Cop.code_world fun w1 hw1 => ?_
  have r1 : w1.heap[w.heap.size]? = some (.cells #[.int .i64 l, .int .i64 i] 31 (0, 0)) := by rw [← hw1]; (repeat (first | refine Cop.at_new _ _ _ (by simp) | refine Cop.at_old _ _ _ (by simp <;> omega) ?_ | refine Cop.at_old _ _ _ (by simp) ?_))
  have b1 : Below w.heap.size w w1 := by rw [← hw1]; exact (Below.refl _ _).alloc (Nat.le_refl _) _
  clear hw1
  refine (HV.out _).mono ?_
  rintro e w2 ⟨rfl, b2⟩
  obtain ⟨c0, c1⟩ := row2 (kept_row b2 r1)
  have bb : Below w.heap.size w w2 := b1.trans (b2.mono b1.size)
  cases b with
  | false =>
    go_wp2
    go_ret
    exact ⟨rfl, bb⟩
  | true =>
    by_cases hl : l = 48
    · have HL := Lib.hid hl
      have hl2 : (l == 48) = true := by simp [hl]
      subst hl
      go_wp2
      go_ret
      exact ⟨rfl, bb⟩
    · go_wp2
      go_ret
      exact ⟨ret_int (by simp [hl]), bb⟩
theorem parent_no (l i : Int) (w : World) (err : Int) (h : (if vok l i = true then (if l = 48 then (40 : Int) else 0) else 2) = err) (h0 : err ≠ 0) :
    Calls Try.prog 23 #[.agg #[.int .i64 l, .int .i64 i]] w fun e w' => e = .returned (.tuple #[.agg #[.int .i64 0, .int .i64 0], .int .i64 err]) ∧ Below w.heap.size w w' := by
  have hv := fun w' => below_a l i w'
  rw [h] at hv
  have HV := Lib.hid hv
  clear hv h
  go_enter Try.func23, Try.ntmps23
  go_wp2_with fail
  first | refine Cop.wl_world fun w1 hw1 => ?_ | refine Cop.calls_world fun w1 hw1 => ?_ | refine Cop.exit_world fun w1 hw1 => ?_ | refine Cop.code_world fun w1 hw1 => ?_
  have r1 : w1.heap[w.heap.size]? = some (.cells #[.int .i64 l, .int .i64 i] 31 (0, 0)) := by rw [← hw1]; (repeat (first | refine Cop.at_new _ _ _ (by simp) | refine Cop.at_old _ _ _ (by simp <;> omega) ?_ | refine Cop.at_old _ _ _ (by simp) ?_))
  have r2 : w1.heap[w.heap.size + 1]? = some (.cells #[.int .i64 0, .int .i64 0] 31 (0, 0)) := by rw [← hw1]; exact at_new _ _ _ (by simp)
  have b1 : Below w.heap.size w w1 := by rw [← hw1]; exact ((Below.refl _ _).alloc (Nat.le_refl _) _).alloc (by simp) _
  have z1 : w.heap.size + 2 ≤ w1.heap.size := by rw [← hw1]; simp
  clear hw1
  refine (HV.out _).mono ?_
  rintro e w2 ⟨rfl, b2⟩
  have q1 := kept_row b2 r1
  have q2 := kept_row b2 r2
  go_wp2_with (first | refine wl_store_row rfl 31 _ _ rfl (w.heap.size + 1) rfl 31 #[.int .i64 0, .int .i64 0] #[.int .i64 0, .int .i64 0] rfl q2 (by kernel_rfl) rfl (by simp [Value.oneCell']) ?_)
  exact ret_row_tmp rfl rfl (w.heap.size + 1) rfl 31 _ (0, 0) _ (setRow_heap _ _ _ _ _ _ q2) Try.underlying31 rfl (by kernel_rfl) _ rfl ⟨rfl, below_setRow (b1.trans (b2.mono (by omega))) (by simp) _⟩
theorem sibling_no (l i : Int) (w : World) (err : Int) (h : (if vok l i = true then (if l = 48 then (40 : Int) else 0) else 2) = err) (h0 : err ≠ 0) :
    Calls Try.prog 24 #[.agg #[.int .i64 l, .int .i64 i]] w fun e w' => e = .returned (.tuple #[.agg #[.int .i64 0, .int .i64 0], .int .i64 err]) ∧ Below w.heap.size w w' := by
  have hv := fun w' => below_a l i w'
  rw [h] at hv
  have HV := Lib.hid hv
  clear hv h
  go_enter Try.func24, Try.ntmps24
  go_wp2_with fail
  first | refine Cop.wl_world fun w1 hw1 => ?_ | refine Cop.calls_world fun w1 hw1 => ?_ | refine Cop.exit_world fun w1 hw1 => ?_ | refine Cop.code_world fun w1 hw1 => ?_
  have r1 : w1.heap[w.heap.size]? = some (.cells #[.int .i64 l, .int .i64 i] 31 (0, 0)) := by rw [← hw1]; (repeat (first | refine Cop.at_new _ _ _ (by simp) | refine Cop.at_old _ _ _ (by simp <;> omega) ?_ | refine Cop.at_old _ _ _ (by simp) ?_))
  have r2 : w1.heap[w.heap.size + 1]? = some (.cells #[.int .i64 0, .int .i64 0] 31 (0, 0)) := by rw [← hw1]; exact at_new _ _ _ (by simp)
  have b1 : Below w.heap.size w w1 := by rw [← hw1]; exact ((Below.refl _ _).alloc (Nat.le_refl _) _).alloc (by simp) _
  have z1 : w.heap.size + 2 ≤ w1.heap.size := by rw [← hw1]; simp
  clear hw1
  refine (HV.out _).mono ?_
  rintro e w2 ⟨rfl, b2⟩
  have q1 := kept_row b2 r1
  have q2 := kept_row b2 r2
  go_wp2_with (first | refine wl_store_row rfl 31 _ _ rfl (w.heap.size + 1) rfl 31 #[.int .i64 0, .int .i64 0] #[.int .i64 0, .int .i64 0] rfl q2 (by kernel_rfl) rfl (by simp [Value.oneCell']) ?_)
  exact ret_row_tmp rfl rfl (w.heap.size + 1) rfl 31 _ (0, 0) _ (setRow_heap _ _ _ _ _ _ q2) Try.underlying31 rfl (by kernel_rfl) _ rfl ⟨rfl, below_setRow (b1.trans (b2.mono (by omega))) (by simp) _⟩
set_option maxHeartbeats 4000000 in
theorem parent_ok (l i : Nat) (w : World) (h : vok l i = true) (hl : l < 48) :
    Calls Try.prog 23 #[.agg #[.int .i64 l, .int .i64 i]] w fun e w' => e = .returned (.tuple #[.agg #[.int .i64 (l + 1 : Nat), .int .i64 (i / 2 : Nat)], .int .i64 0]) ∧ Below w.heap.size w w' := by
  have hv := fun w' => below_a l i w'
  have h48 : ¬ ((l : Int) = 48) := by omega
  simp only [h, h48, if_true, if_false] at hv
  have HV := Lib.hid hv
  have hi : i ≤ 281474976710656 := by
    have h2 := (vok_num h).2
    exact Nat.le_trans (Nat.le_trans (Nat.le_mul_of_pos_right _ (Nat.two_pow_pos l)) (Nat.le_add_right _ _)) h2
  clear hv h h48
  go_enter Try.func23, Try.ntmps23
  go_wp2_with fail
  first | refine Cop.wl_world fun w1 hw1 => ?_ | refine Cop.calls_world fun w1 hw1 => ?_ | refine Cop.exit_world fun w1 hw1 => ?_ | refine Cop.code_world fun w1 hw1 => ?_
  have r1 : w1.heap[w.heap.size]? = some (.cells #[.int .i64 l, .int .i64 i] 31 (0, 0)) := by rw [← hw1]; (repeat (first | refine Cop.at_new _ _ _ (by simp) | refine Cop.at_old _ _ _ (by simp <;> omega) ?_ | refine Cop.at_old _ _ _ (by simp) ?_))
  have r2 : w1.heap[w.heap.size + 1]? = some (.cells #[.int .i64 0, .int .i64 0] 31 (0, 0)) := by rw [← hw1]; exact at_new _ _ _ (by simp)
  have b1 : Below w.heap.size w w1 := by rw [← hw1]; exact ((Below.refl _ _).alloc (Nat.le_refl _) _).alloc (by simp) _
  have z1 : w.heap.size + 2 ≤ w1.heap.size := by rw [← hw1]; simp
  clear hw1
  refine (HV.out _).mono ?_
  rintro e w2 ⟨rfl, b2⟩
  obtain ⟨c0, c1⟩ := row2 (kept_row b2 r1)
  have q2 := kept_row b2 r2
  go_wp2_with (refine wl_store_row rfl 31 _ _ rfl (w.heap.size + 1) rfl 31 #[.int .i64 0, .int .i64 0] _ rfl q2 (by kernel_rfl) rfl (by simp [Value.oneCell']) ?_)
  exact ret_row_tmp rfl rfl (w.heap.size + 1) rfl 31 _ (0, 0) _ (setRow_heap _ _ _ _ _ _ q2) Try.underlying31 rfl (by kernel_rfl) _ rfl ⟨by simp, below_setRow (b1.trans (b2.mono (by omega))) (by simp) _⟩
theorem xor_one (i : Nat) (h : i ≤ 281474976710656) : bits .xor .i64 (i : Int) 1 = ((i ^^^ 1 : Nat) : Int) := by
  have hx : i ^^^ 1 < 2 ^ 63 := Nat.xor_lt_two_pow (by omega) (by omega)
  have h1 : (BitVec.ofInt 64 (i : Int)).toNat = i := by
    rw [BitVec.ofInt_natCast, BitVec.toNat_ofNat]; exact Nat.mod_eq_of_lt (by omega)
  show IntKind.i64.wrap ((BitVec.ofInt 64 (i : Int) ^^^ BitVec.ofInt 64 ((1 : Nat) : Int)).toNat : Int) = _
  rw [BitVec.toNat_xor, h1]
  have h2 : (BitVec.ofInt 64 ((1 : Nat) : Int)).toNat = 1 := by rw [BitVec.ofInt_natCast, BitVec.toNat_ofNat]
  rw [h2]
  exact wrap_small _ (by omega)
set_option maxHeartbeats 4000000 in
theorem sibling_ok (l i : Nat) (w : World) (h : vok l i = true) (hl : l < 48) :
    Calls Try.prog 24 #[.agg #[.int .i64 l, .int .i64 i]] w fun e w' => e = .returned (.tuple #[.agg #[.int .i64 l, .int .i64 (i ^^^ 1 : Nat)], .int .i64 0]) ∧ Below w.heap.size w w' := by
  have hv := fun w' => below_a l i w'
  have h48 : ¬ ((l : Int) = 48) := by omega
  simp only [h, h48, if_true, if_false] at hv
  have HV := Lib.hid hv
  have hi : i ≤ 281474976710656 := by
    have h2 := (vok_num h).2
    exact Nat.le_trans (Nat.le_trans (Nat.le_mul_of_pos_right _ (Nat.two_pow_pos l)) (Nat.le_add_right _ _)) h2
  clear hv h h48
  go_enter Try.func24, Try.ntmps24
  go_wp2_with fail
  first | refine Cop.wl_world fun w1 hw1 => ?_ | refine Cop.calls_world fun w1 hw1 => ?_ | refine Cop.exit_world fun w1 hw1 => ?_ | refine Cop.code_world fun w1 hw1 => ?_
  have r1 : w1.heap[w.heap.size]? = some (.cells #[.int .i64 l, .int .i64 i] 31 (0, 0)) := by rw [← hw1]; (repeat (first | refine Cop.at_new _ _ _ (by simp) | refine Cop.at_old _ _ _ (by simp <;> omega) ?_ | refine Cop.at_old _ _ _ (by simp) ?_))
  have r2 : w1.heap[w.heap.size + 1]? = some (.cells #[.int .i64 0, .int .i64 0] 31 (0, 0)) := by rw [← hw1]; exact at_new _ _ _ (by simp)
  have b1 : Below w.heap.size w w1 := by rw [← hw1]; exact ((Below.refl _ _).alloc (Nat.le_refl _) _).alloc (by simp) _
  have z1 : w.heap.size + 2 ≤ w1.heap.size := by rw [← hw1]; simp
  clear hw1
  refine (HV.out _).mono ?_
  rintro e w2 ⟨rfl, b2⟩
  obtain ⟨c0, c1⟩ := row2 (kept_row b2 r1)
  have q2 := kept_row b2 r2
  go_wp2_with (refine wl_store_row rfl 31 _ _ rfl (w.heap.size + 1) rfl 31 #[.int .i64 0, .int .i64 0] _ rfl q2 (by kernel_rfl) rfl (by simp [Value.oneCell']) ?_)
  exact ret_row_tmp rfl rfl (w.heap.size + 1) rfl 31 _ (0, 0) _ (setRow_heap _ _ _ _ _ _ q2) Try.underlying31 rfl (by kernel_rfl) _ rfl ⟨by rw [xor_one i (by omega)]; rfl, below_setRow (b1.trans (b2.mono (by omega))) (by simp) _⟩
end Go.Proofs.Ytcjnheabkdalbaa
