/- Proved here: any node's leaves, parent and sibling are the document's, and whether one lies within another (node.Leaves, Parent, Sibling, Valid, Within); without condition. -/
import Derived.Test.YtcjnheabkdalbaaNd
import Derived.Test.YtcjnheabkdalbaaFNodeTells
namespace Go.Proofs.Ytcjnheabkdalbaa
open Go.RowKit Cop
set_option linter.unusedVariables false
set_option linter.unusedSimpArgs false
/-- A struct of two numbers that came in. -/
theorem open_two {H : Type} {enc : TypeId × Value → H} {P : Program} {w : World} {base : Nat} {spare : Nat → Bool} {held : Bool} {t t0 : TypeId} {v : Value} {d : DataW H} {ps : List MemPlace} {r : Reach} {base' : Nat} {k : IntKind} {f0 f1 : Field}
    (ht : P.underlying t = some (.struct #[f0, f1])) (e0 : f0.type = t0) (e1 : f1.type = t0) (o0 : f0.offset = 0) (o1 : f1.offset = 1) (hi : P.underlying t0 = some (.int k)) (hc0 : P.cellsOf t0 = 1) (hc : P.cellsOf t = 2)
    (h : DataW.Trod enc P w base spare held t v d ps) (hok : Value.okWide P w r base' t v) : ∃ m n : Int, v = .agg #[.int k m, .int k n] ∧ (Lit.int k m).wf = true ∧ (Lit.int k n).wf = true := by
  obtain ⟨cs, rfl, hsz⟩ := Go.WideShapes.okWide_struct ht hok
  obtain ⟨fuel, hf⟩ := h
  obtain ⟨y0, y1, n, _, hl, h0, h1⟩ := Go.ChangeShapes.trod_struct2 ht hf
  obtain ⟨l⟩ := cs
  rw [hc] at hsz
  match l, hsz with
  | [a, b], _ =>
    rw [e0, o0, hc0] at h0
    rw [e1, o1, hc0] at h1
    obtain ⟨m, hm, _, w0⟩ := DataW.trod_int hi h0
    obtain ⟨n, hn, _, w1⟩ := DataW.trod_int hi h1
    simp [Value.cells] at hm hn
    exact ⟨m, n, by simp [hm, hn], w0, w1⟩
theorem names_a (w : World) : Calls Try.prog 29 #[] w fun e w' => e = .returned (.bool true) ∧ w' = w := by
  go_enter Try.func29, Try.ntmps29
  go_wp2
  go_ret
  exact ⟨rfl, rfl⟩
set_option maxRecDepth 100000 in
set_option maxHeartbeats 4000000 in
/-- A law's walk behind its three questions. -/
theorem nodeTells_walk (l i m j s0 s1 e1 p0 p1 e2 b0 b1' e3 : Int) (vk wt : Bool) (w : World)
    (HL : Hid (∀ w', Calls Try.prog 22 #[.agg #[.int .i64 l, .int .i64 i]] w' fun e w'' => e = .returned (.tuple #[.agg #[.int .i64 s0, .int .i64 s1], .int .i64 e1]) ∧ Below w'.heap.size w' w''))
    (HP : Hid (∀ w', Calls Try.prog 23 #[.agg #[.int .i64 l, .int .i64 i]] w' fun e w'' => e = .returned (.tuple #[.agg #[.int .i64 p0, .int .i64 p1], .int .i64 e2]) ∧ Below w'.heap.size w' w''))
    (HS : Hid (∀ w', Calls Try.prog 24 #[.agg #[.int .i64 l, .int .i64 i]] w' fun e w'' => e = .returned (.tuple #[.agg #[.int .i64 b0, .int .i64 b1'], .int .i64 e3]) ∧ Below w'.heap.size w' w''))
    (HVa : Hid (∀ w', Calls Try.prog 25 #[.agg #[.int .i64 l, .int .i64 i]] w' fun e w'' => e = .returned (.bool vk) ∧ Below w'.heap.size w' w''))
    (HVb : Hid (∀ w', Calls Try.prog 26 #[.agg #[.int .i64 l, .int .i64 i]] w' fun e w'' => e = .returned (.bool vk) ∧ Below w'.heap.size w' w''))
    (HWa : Hid (∀ w', Calls Try.prog 27 #[.agg #[.int .i64 l, .int .i64 i], .agg #[.int .i64 m, .int .i64 j]] w' fun e w'' => e = .returned (.bool wt) ∧ Below w'.heap.size w' w''))
    (HWb : Hid (∀ w', Calls Try.prog 28 #[.agg #[.int .i64 l, .int .i64 i], .agg #[.int .i64 m, .int .i64 j]] w' fun e w'' => e = .returned (.bool wt) ∧ Below w'.heap.size w' w''))
    (HXa : Hid (∀ w', Calls Try.prog 27 #[.agg #[.int .i64 l, .int .i64 i], .agg #[.int .i64 l, .int .i64 i]] w' fun e w'' => e = .returned (.bool vk) ∧ Below w'.heap.size w' w''))
    (HLb : Hid (vk = true → ∀ w', Calls Try.prog 30 #[.agg #[.int .i64 l, .int .i64 i]] w' fun e w'' => e = .returned (.agg #[.int .i64 s0, .int .i64 s1]) ∧ Below w'.heap.size w' w''))
    (hcase : Hid ((vk = false ∧ s0 = 0 ∧ s1 = 0 ∧ e1 = 2 ∧ p0 = 0 ∧ p1 = 0 ∧ e2 = 2 ∧ b0 = 0 ∧ b1' = 0 ∧ e3 = 2) ∨ (vk = true ∧ e1 = 0 ∧ l = 48 ∧ p0 = 0 ∧ p1 = 0 ∧ e2 = 40 ∧ b0 = 0 ∧ b1' = 0 ∧ e3 = 40) ∨
      (vk = true ∧ e1 = 0 ∧ e2 = 0 ∧ e3 = 0 ∧ (0 ≤ l ∧ l < 48) ∧ (0 ≤ i ∧ i ≤ 281474976710656) ∧ p0 = l + 1 ∧ p1 = i / 2 ∧ l = b0 ∧ ((i % 2 = 1 ∧ b1' = i - 1) ∨ (i % 2 = 0 ∧ b1' = i + 1))))) :
    Calls Try.prog 7 #[.agg #[.int .i64 l, .int .i64 i], .agg #[.int .i64 m, .int .i64 j]] w fun e w' => e = .returned (.bool true) ∧ Below w.heap.size w w' := by
  go_enter Try.func7, Try.ntmps7
  go_wp2_with fail
  first | refine Cop.wl_world fun w1 hw1 => ?_ | refine Cop.calls_world fun w1 hw1 => ?_ | refine Cop.exit_world fun w1 hw1 => ?_ | refine Cop.code_world fun w1 hw1 => ?_
  have r1 : w1.heap[w.heap.size]? = some (.cells #[.int .i64 l, .int .i64 i] 31 (0, 0)) := by rw [← hw1]; (repeat (first | refine Cop.at_new _ _ _ (by simp) | refine Cop.at_old _ _ _ (by simp <;> omega) ?_ | refine Cop.at_old _ _ _ (by simp) ?_))
  have r2 : w1.heap[w.heap.size + 1]? = some (.cells #[.int .i64 m, .int .i64 j] 31 (0, 0)) := by rw [← hw1]; (repeat (first | refine Cop.at_new _ _ _ (by simp) | refine Cop.at_old _ _ _ (by simp <;> omega) ?_ | refine Cop.at_old _ _ _ (by simp) ?_))
  have b1 : Below w.heap.size w w1 := by rw [← hw1]; exact ((Below.refl _ _).alloc (Nat.le_refl _) _).alloc (by simp) _
  clear hw1
  refine (HL.out _).mono ?_
  rintro e w2 ⟨rfl, a2⟩
  have b2 := b1.trans (a2.mono b1.size)
  have r1 := kept_row a2 r1
  have r2 := kept_row a2 r2
  have hlt1 := (Array.getElem?_eq_some_iff.1 r1).1
  go_wp2_with (refine wl_load_row rfl 31 _ rfl w.heap.size rfl 31 #[.int .i64 l, .int .i64 i] (0, 0) _ (at_old _ _ _ hlt1 r1) Try.underlying31 rfl (by kernel_rfl) ?_)
  first | refine Cop.wl_world fun w3 hw3 => ?_ | refine Cop.calls_world fun w3 hw3 => ?_ | refine Cop.exit_world fun w3 hw3 => ?_ | refine Cop.code_world fun w3 hw3 => ?_
  have r1 : w3.heap[w.heap.size]? = some (.cells #[.int .i64 l, .int .i64 i] 31 (0, 0)) := by rw [← hw3]; exact at_old _ _ _ hlt1 r1
  have r2 : w3.heap[w.heap.size + 1]? = some (.cells #[.int .i64 m, .int .i64 j] 31 (0, 0)) := by rw [← hw3]; exact at_old _ _ _ (Array.getElem?_eq_some_iff.1 r2).1 r2
  have r3 : w3.heap[w2.heap.size]? = some (.cells #[.int .i64 s0, .int .i64 s1] 46 (0, 0)) := by rw [← hw3]; exact at_new _ _ _ rfl
  have b3 : Below w.heap.size w w3 := by rw [← hw3]; exact b2.alloc b2.size _
  generalize w2.heap.size = G3 at r3 ⊢
  clear hw3 hlt1
  refine (HP.out _).mono ?_
  rintro e w4 ⟨rfl, a4⟩
  have b4 := b3.trans (a4.mono b3.size)
  have r1 := kept_row a4 r1
  have r2 := kept_row a4 r2
  have r3 := kept_row a4 r3
  have hlt1 := (Array.getElem?_eq_some_iff.1 r1).1
  go_wp2_with (refine wl_load_row rfl 31 _ rfl w.heap.size rfl 31 #[.int .i64 l, .int .i64 i] (0, 0) _ (at_old _ _ _ hlt1 r1) Try.underlying31 rfl (by kernel_rfl) ?_)
  first | refine Cop.wl_world fun w5 hw5 => ?_ | refine Cop.calls_world fun w5 hw5 => ?_ | refine Cop.exit_world fun w5 hw5 => ?_ | refine Cop.code_world fun w5 hw5 => ?_
  have r1 : w5.heap[w.heap.size]? = some (.cells #[.int .i64 l, .int .i64 i] 31 (0, 0)) := by rw [← hw5]; exact at_old _ _ _ hlt1 r1
  have r2 : w5.heap[w.heap.size + 1]? = some (.cells #[.int .i64 m, .int .i64 j] 31 (0, 0)) := by rw [← hw5]; exact at_old _ _ _ (Array.getElem?_eq_some_iff.1 r2).1 r2
  have r3 : w5.heap[G3]? = some (.cells #[.int .i64 s0, .int .i64 s1] 46 (0, 0)) := by rw [← hw5]; exact at_old _ _ _ (Array.getElem?_eq_some_iff.1 r3).1 r3
  have r4 : w5.heap[w4.heap.size]? = some (.cells #[.int .i64 p0, .int .i64 p1] 31 (0, 0)) := by rw [← hw5]; exact at_new _ _ _ rfl
  have b5 : Below w.heap.size w w5 := by rw [← hw5]; exact b4.alloc b4.size _
  generalize w4.heap.size = G4 at r4 ⊢
  clear hw5 hlt1
  refine (HS.out _).mono ?_
  rintro e w6 ⟨rfl, a6⟩
  have b6 := b5.trans (a6.mono b5.size)
  have r1 := kept_row a6 r1
  have r2 := kept_row a6 r2
  have r3 := kept_row a6 r3
  have r4 := kept_row a6 r4
  go_wp2_with fail
  first | refine Cop.wl_world fun w7 hw7 => ?_ | refine Cop.calls_world fun w7 hw7 => ?_ | refine Cop.exit_world fun w7 hw7 => ?_ | refine Cop.code_world fun w7 hw7 => ?_
  have r1 : w7.heap[w.heap.size]? = some (.cells #[.int .i64 l, .int .i64 i] 31 (0, 0)) := by rw [← hw7]; exact at_old _ _ _ (Array.getElem?_eq_some_iff.1 r1).1 r1
  have r2 : w7.heap[w.heap.size + 1]? = some (.cells #[.int .i64 m, .int .i64 j] 31 (0, 0)) := by rw [← hw7]; exact at_old _ _ _ (Array.getElem?_eq_some_iff.1 r2).1 r2
  have r3 : w7.heap[G3]? = some (.cells #[.int .i64 s0, .int .i64 s1] 46 (0, 0)) := by rw [← hw7]; exact at_old _ _ _ (Array.getElem?_eq_some_iff.1 r3).1 r3
  have r4 : w7.heap[G4]? = some (.cells #[.int .i64 p0, .int .i64 p1] 31 (0, 0)) := by rw [← hw7]; exact at_old _ _ _ (Array.getElem?_eq_some_iff.1 r4).1 r4
  have r5 : w7.heap[w6.heap.size]? = some (.cells #[.int .i64 b0, .int .i64 b1'] 31 (0, 0)) := by rw [← hw7]; exact at_new _ _ _ rfl
  have b7 : Below w.heap.size w w7 := by rw [← hw7]; exact b6.alloc b6.size _
  generalize w6.heap.size = G5 at r5 ⊢
  clear hw7
  obtain ⟨c0, c1⟩ := row2 r1
  obtain ⟨c2, c3⟩ := row2 r2
  (refine Cop.region_gq 22 (by kernel_rfl) (by kernel_rfl) ?_)
  (repeat (first | (refine Cop.gq_skip rfl _ (by simp only [Act.put, List.setIfInBounds_toArray, List.set_cons_succ, List.set_cons_zero]; rfl) ?_) | (refine Cop.gq_val rfl ?_; apply Exists.intro; refine ⟨fun w9 h9 => ?_, _, by simp only [Act.put, List.setIfInBounds_toArray, List.set_cons_succ, List.set_cons_zero]; rfl, ?_⟩; (have d0 := bcell h9 c0; have d1 := bcell h9 c1; have d2 := bcell h9 c2; have d3 := bcell h9 c3; unfold Oper.quietAt; go_simp; first | done | with_reducible exact rfl | with_reducible exact ⟨rfl, rfl⟩ | with_reducible exact Cop.bcalls h9 (HVa.out _) | with_reducible exact Cop.bcalls h9 (HVb.out _) | with_reducible exact Cop.bcalls h9 (HWa.out _) | with_reducible exact Cop.bcalls h9 (HWb.out _) | with_reducible exact Cop.bcalls h9 (HXa.out _))))); refine Cop.gq_end ?_
  intro w8 b8
  have r1 := kept_row b8 r1
  have r3 := kept_row b8 r3
  have r4 := kept_row b8 r4
  have r5 := kept_row b8 r5
  clear c0 c1 c2 c3
  replace b8 := b7.trans (b8.mono b7.size)
  obtain ⟨c0, c1⟩ := row2 r1
  go_wp2_with fail
  refine (HVb.out _).mono ?_
  rintro e w9 ⟨rfl, b9⟩
  clear c0 c1
  have r1 := kept_row b9 r1
  have r3 := kept_row b9 r3
  have r4 := kept_row b9 r4
  have r5 := kept_row b9 r5
  replace b9 := b8.trans (b9.mono b8.size)
  obtain ⟨c0, c1⟩ := row2 r1
  obtain ⟨d0, d1⟩ := row2 r3
  obtain ⟨f0, f1⟩ := row2 r4
  obtain ⟨g0, g1⟩ := row2 r5
  rcases hcase.out with ⟨rfl, rfl, rfl, rfl, rfl, rfl, rfl, rfl, rfl, rfl⟩ | ⟨rfl, rfl, rfl, rfl, rfl, rfl, rfl, rfl, rfl⟩ | ⟨rfl, rfl, rfl, rfl, h48, hi, rfl, rfl, rfl, hb⟩
  · go_wp2_with (first | (go_at_call 29; refine (names_a _).mono ?_; rintro e w10 ⟨rfl, rfl⟩))
    go_ret
    exact ⟨rfl, b9⟩
  · go_wp2_with fail
    have HLc := Lib.hid (HLb.out (by simp))
    (refine Cop.region_gq 8 (by kernel_rfl) (by kernel_rfl) ?_)
    (repeat (first | (refine Cop.gq_skip rfl _ (by simp only [Act.put, List.setIfInBounds_toArray, List.set_cons_succ, List.set_cons_zero]; rfl) ?_) | (refine Cop.gq_val rfl ?_; apply Exists.intro; refine ⟨fun w9 h9 => ?_, _, by simp only [Act.put, List.setIfInBounds_toArray, List.set_cons_succ, List.set_cons_zero]; rfl, ?_⟩; (have q0 := bcell h9 c0; have q1 := bcell h9 c1; have q2 := bcell h9 d0; have q3 := bcell h9 d1; unfold Oper.quietAt; go_simp; first | done | with_reducible exact rfl | with_reducible exact ⟨rfl, rfl⟩ | with_reducible exact Cop.bcalls h9 (HLc.out _))))); refine Cop.gq_end ?_
    intro w10 b10
    have r1 := kept_row b10 r1
    have r4 := kept_row b10 r4
    have r5 := kept_row b10 r5
    replace b10 := b9.trans (b10.mono b9.size)
    clear c0 c1 d0 d1 f0 f1 g0 g1
    obtain ⟨c0, c1⟩ := row2 r1
    obtain ⟨f0, f1⟩ := row2 r4
    obtain ⟨g0, g1⟩ := row2 r5
    go_wp2_with (first | (go_at_call 29; refine (names_a _).mono ?_; rintro e w11 ⟨rfl, rfl⟩))
    go_ret
    exact ⟨rfl, b10⟩
  · have hl0 := h48.1
    have hl1 := h48.2
    have hl2 : ¬ l = 48 := by omega
    have hl3 : (l == 48) = false := by simp [hl2]
    have hi0 := hi.1
    have hi1 := hi.2
    have hi2 : 0 ≤ i / 2 := by omega
    have HB := Lib.hid hb
    clear h48 hi hb
    go_wp2_with fail
    have HLc := Lib.hid (HLb.out (by simp))
    (refine Cop.region_gq 8 (by kernel_rfl) (by kernel_rfl) ?_)
    (repeat (first | (refine Cop.gq_skip rfl _ (by simp only [Act.put, List.setIfInBounds_toArray, List.set_cons_succ, List.set_cons_zero]; rfl) ?_) | (refine Cop.gq_val rfl ?_; apply Exists.intro; refine ⟨fun w9 h9 => ?_, _, by simp only [Act.put, List.setIfInBounds_toArray, List.set_cons_succ, List.set_cons_zero]; rfl, ?_⟩; (have q0 := bcell h9 c0; have q1 := bcell h9 c1; have q2 := bcell h9 d0; have q3 := bcell h9 d1; unfold Oper.quietAt; go_simp; first | done | with_reducible exact rfl | with_reducible exact ⟨rfl, rfl⟩ | with_reducible exact Cop.bcalls h9 (HLc.out _))))); refine Cop.gq_end ?_
    intro w10 b10
    have r1 := kept_row b10 r1
    have r4 := kept_row b10 r4
    have r5 := kept_row b10 r5
    replace b10 := b9.trans (b10.mono b9.size)
    clear c0 c1 d0 d1 f0 f1 g0 g1
    obtain ⟨c0, c1⟩ := row2 r1
    obtain ⟨f0, f1⟩ := row2 r4
    obtain ⟨g0, g1⟩ := row2 r5
    rcases HB.out with ⟨hp, rfl⟩ | ⟨hp, rfl⟩
    · go_wp2
      go_ret
      exact ⟨rfl, b10⟩
    · have hp1 : ¬ i % 2 = 1 := by omega
      go_wp2
      go_ret
      exact ⟨rfl, b10⟩
theorem xor_if (i : Nat) : ((i : Int) % 2 = 1 ∧ ((i ^^^ 1 : Nat) : Int) = (i : Int) - 1) ∨ ((i : Int) % 2 = 0 ∧ ((i ^^^ 1 : Nat) : Int) = (i : Int) + 1) := by
  have h1 : (i ^^^ 1) / 2 = i / 2 := by
    apply Nat.eq_of_testBit_eq; intro k
    have h0 : Nat.testBit 1 (k + 1) = false := by rw [Nat.testBit_succ]; simp
    rw [Nat.testBit_div_two, Nat.testBit_div_two, Nat.testBit_xor, h0, Bool.xor_false]
  have h2 := Nat.xor_mod_two_pow (a := i) (b := 1) (n := 1)
  simp only [Nat.pow_one] at h2
  rcases Nat.mod_two_eq_zero_or_one i with h | h
  · rw [h] at h2
    have h3 : (0 ^^^ 1 % 2) = 1 := by decide
    omega
  · rw [h] at h2
    have h3 : (1 ^^^ 1 % 2) = 0 := by decide
    omega
theorem wit_self (l i : Int) : wit l i l i = vok l i := by
  simp [wit]
theorem nodeTells_all (l i m j : Int) (w : World) : Calls Try.prog 7 #[.agg #[.int .i64 l, .int .i64 i], .agg #[.int .i64 m, .int .i64 j]] w fun e w' => e = .returned (.bool true) ∧ Below w.heap.size w w' := by
  have HVa := Lib.hid (fun w' => valid_a l i w')
  have HVb := Lib.hid (fun w' => valid_b l i w')
  have HWa := Lib.hid (fun w' => within_a l i m j w')
  have HWb := Lib.hid (fun w' => within_b l i m j w')
  have HXa := Lib.hid (fun w' => within_a l i l i w')
  rw [wit_self] at HXa
  have hb := fun e h w' => parent_no l i w' e h
  have hs := fun e h w' => sibling_no l i w' e h
  cases hv : vok l i with
  | false =>
    rw [hv] at HVa HVb HXa
    simp only [hv, Bool.false_eq_true, if_false] at hb hs
    exact nodeTells_walk l i m j 0 0 2 0 0 2 0 0 2 false _ w (Lib.hid fun w' => leaves_no l i w' hv) (Lib.hid fun w' => hb 2 rfl w' (by decide)) (Lib.hid fun w' => hs 2 rfl w' (by decide)) HVa HVb HWa HWb HXa
      (Lib.hid fun h => by cases h) (Lib.hid (.inl ⟨rfl, rfl, rfl, rfl, rfl, rfl, rfl, rfl, rfl, rfl⟩))
  | true =>
    rw [hv] at HVa HVb HXa
    obtain ⟨l, rfl⟩ : ∃ n : Nat, l = n := ⟨l.toNat, by have := vok_pos hv; omega⟩
    obtain ⟨i, rfl⟩ : ∃ n : Nat, i = n := ⟨i.toNat, by have := vok_pos hv; omega⟩
    by_cases h48 : l = 48
    · have h48' : (l : Int) = 48 := by omega
      simp only [hv, if_true, eq_true h48'] at hb hs
      exact nodeTells_walk l i m j _ _ 0 0 0 40 0 0 40 true _ w (Lib.hid fun w' => leaves_ok l i w' hv) (Lib.hid fun w' => hb 40 rfl w' (by decide)) (Lib.hid fun w' => hs 40 rfl w' (by decide)) HVa HVb HWa HWb HXa
        (Lib.hid fun _ w' => leaves_b l i w' hv) (Lib.hid (.inr (.inl ⟨rfl, rfl, by omega, rfl, rfl, rfl, rfl, rfl, rfl⟩)))
    · have hl : l < 48 := by have := (vok_num hv).1; omega
      have hi : i ≤ 281474976710656 := by
        have h2 := (vok_num hv).2
        exact Nat.le_trans (Nat.le_trans (Nat.le_mul_of_pos_right _ (Nat.two_pow_pos l)) (Nat.le_add_right _ _)) h2
      exact nodeTells_walk l i m j _ _ 0 _ _ 0 _ _ 0 true _ w (Lib.hid fun w' => leaves_ok l i w' hv) (Lib.hid fun w' => parent_ok l i w' hv hl) (Lib.hid fun w' => sibling_ok l i w' hv hl) HVa HVb HWa HWb HXa
        (Lib.hid fun _ w' => leaves_b l i w' hv) (Lib.hid (.inr (.inr ⟨rfl, rfl, rfl, rfl, by omega, by omega, by simp, by simp, rfl, xor_if i⟩)))
theorem nodeTells_holds : Rows.NodeTellsSaid := nodeTells.row_of_walk fun H enc W base v0 v1 d0 d1 p0 p1 h0 k0 h1 k1 _ => by
  obtain ⟨l, i, rfl, _, _⟩ := open_two Try.underlying31 rfl rfl rfl rfl Try.underlying3 (by kernel_rfl) (by kernel_rfl) h0 k0
  obtain ⟨m, j, rfl, _, _⟩ := open_two Try.underlying31 rfl rfl rfl rfl Try.underlying3 (by kernel_rfl) (by kernel_rfl) h1 k1
  exact nodeTells_all l i m j W
#print axioms nodeTells_holds
end Go.Proofs.Ytcjnheabkdalbaa
