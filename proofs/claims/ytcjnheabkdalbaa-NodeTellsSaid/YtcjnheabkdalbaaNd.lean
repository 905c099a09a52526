import Derived.Test.YtcjnheabkdalbaaNc
namespace Go.Proofs.Ytcjnheabkdalbaa
open Go.RowKit Cop
set_option linter.unusedVariables false
set_option linter.unusedSimpArgs false
theorem within_law (l i m j : Nat) : (j * 2 ^ m ≤ i * 2 ^ l ∧ i * 2 ^ l + 2 ^ l ≤ j * 2 ^ m + 2 ^ m) ↔ (l ≤ m ∧ j = i / 2 ^ (m - l)) := by
  rcases Nat.le_total l m with h | h
  · obtain ⟨d, rfl⟩ : ∃ d, m = l + d := ⟨m - l, by omega⟩
    have hp : 0 < 2 ^ l := Nat.two_pow_pos l
    have hd : 0 < 2 ^ d := Nat.two_pow_pos d
    have e1 : j * 2 ^ (l + d) = (j * 2 ^ d) * 2 ^ l := by rw [Nat.pow_add, Nat.mul_comm (2 ^ l), Nat.mul_assoc]
    have e2 : j * 2 ^ (l + d) + 2 ^ (l + d) = (j * 2 ^ d + 2 ^ d) * 2 ^ l := by rw [e1, Nat.add_mul, Nat.pow_add, Nat.mul_comm (2 ^ l) (2 ^ d)]
    have e3 : i * 2 ^ l + 2 ^ l = (i + 1) * 2 ^ l := by rw [Nat.add_mul, Nat.one_mul]
    rw [e2, e3, e1, Nat.mul_le_mul_right_iff hp, Nat.mul_le_mul_right_iff hp, show l + d - l = d from by omega]
    constructor
    · rintro ⟨h1, h2⟩
      refine ⟨by omega, ?_⟩
      have := (Nat.div_eq_iff hd (x := i) (y := j)).2 ⟨by rw [Nat.mul_comm] at h1 ⊢; omega, by omega⟩
      exact this.symm
    · rintro ⟨_, rfl⟩
      have h1 := Nat.div_add_mod i (2 ^ d)
      have h2 := Nat.mod_lt i hd
      rw [Nat.mul_comm] at h1
      omega
  · rcases Nat.eq_or_lt_of_le h with h | h
    · subst h
      have hp : 0 < 2 ^ m := Nat.two_pow_pos m
      simp only [Nat.le_refl, Nat.sub_self, Nat.pow_zero, Nat.div_one, true_and]
      constructor
      · rintro ⟨h1, h2⟩
        have h3 : i * 2 ^ m ≤ j * 2 ^ m := by omega
        have := Nat.le_of_mul_le_mul_right h1 hp
        have := Nat.le_of_mul_le_mul_right h3 hp
        omega
      · rintro rfl; omega
    · constructor
      · rintro ⟨h1, h2⟩
        have := Nat.pow_lt_pow_right (a := 2) (by decide) h
        omega
      · rintro ⟨h1, _⟩; omega
theorem wit_iff {l i m j : Nat} : (decide ((l : Int) ≤ (m : Int)) && decide ((j : Int) = (i : Int) / 2 ^ ((m : Int) - (l : Int)).toNat)) = true ↔ (l ≤ m ∧ j = i / 2 ^ (m - l)) := by
  rw [Bool.and_eq_true, decide_eq_true_eq, decide_eq_true_eq, show ((m : Int) - (l : Int)).toNat = m - l from by omega]
  have e : (i : Int) / 2 ^ (m - l) = ((i / 2 ^ (m - l) : Nat) : Int) := by simp
  rw [e]
  constructor
  · rintro ⟨h1, h2⟩; exact ⟨by omega, by omega⟩
  · rintro ⟨h1, h2⟩; exact ⟨by omega, by omega⟩
theorem wit_nat {l i m j : Nat} (h : l ≤ m ∧ j = i / 2 ^ (m - l)) : (decide ((l : Int) ≤ (m : Int)) && decide ((j : Int) = (i : Int) / 2 ^ ((m : Int) - (l : Int)).toNat)) = true := wit_iff.2 h
theorem wit_nat' {l i m j : Nat} (h : ¬ (l ≤ m ∧ j = i / 2 ^ (m - l))) : (decide ((l : Int) ≤ (m : Int)) && decide ((j : Int) = (i : Int) / 2 ^ ((m : Int) - (l : Int)).toNat)) = false := by
  rw [← Bool.not_eq_true]; exact fun k => h (wit_iff.1 k)
set_option maxHeartbeats 4000000 in
theorem within_b (l i m j : Int) (w : World) :
    Calls Try.prog 28 #[.agg #[.int .i64 l, .int .i64 i], .agg #[.int .i64 m, .int .i64 j]] w fun e w' => e = .returned (.bool (wit l i m j)) ∧ Below w.heap.size w w' := by
  have HV := Lib.hid (fun w' => valid_b l i w')
  have HU := Lib.hid (fun w' => valid_b m j w')
  obtain ⟨r, hr⟩ : ∃ r, wit l i m j = r := ⟨_, rfl⟩
  obtain ⟨b, hb⟩ : ∃ b, vok l i = b := ⟨_, rfl⟩
  obtain ⟨c, hc⟩ : ∃ c, vok m j = c := ⟨_, rfl⟩
  rw [hb] at HV
  rw [hc] at HU
  rw [hr]
  have HR := Lib.hid hr
  have HB := Lib.hid hb
  have HC := Lib.hid hc
  clear hr hb hc
  go_enter Try.func28, Try.ntmps28
  go_wp2_with fail
  first | refine Cop.wl_world fun w1 hw1 => ?_ | refine Cop.calls_world fun w1 hw1 => ?_ | refine Cop.exit_world fun w1 hw1 => ?_ | refine Cop.code_world fun w1 hw1 => ?_
  have r1 : w1.heap[w.heap.size]? = some (.cells #[.int .i64 l, .int .i64 i] 31 (0, 0)) := by rw [← hw1]; (repeat (first | refine Cop.at_new _ _ _ (by simp) | refine Cop.at_old _ _ _ (by simp <;> omega) ?_ | refine Cop.at_old _ _ _ (by simp) ?_))
  have r2 : w1.heap[w.heap.size + 1]? = some (.cells #[.int .i64 m, .int .i64 j] 31 (0, 0)) := by rw [← hw1]; (repeat (first | refine Cop.at_new _ _ _ (by simp) | refine Cop.at_old _ _ _ (by simp <;> omega) ?_ | refine Cop.at_old _ _ _ (by simp) ?_))
  have b1 : Below w.heap.size w w1 := by rw [← hw1]; exact ((Below.refl _ _).alloc (Nat.le_refl _) _).alloc (by simp) _
  clear hw1
  refine (HV.out _).mono ?_
  rintro e w2 ⟨rfl, a2⟩
  have b2 := b1.trans (a2.mono b1.size)
  have r1 := kept_row a2 r1
  have r2 := kept_row a2 r2
  obtain ⟨c0, c1⟩ := row2 r1
  obtain ⟨c2, c3⟩ := row2 r2
  cases b with
  | false =>
    go_wp2
    go_ret
    exact ⟨ret_bool (by rw [← HR.out]; simp [wit, HB.out]), b2⟩
  | true =>
    go_wp2_with fail
    refine (HU.out _).mono ?_
    rintro e w3 ⟨rfl, a3⟩
    have b3 := b2.trans (a3.mono b2.size)
    have r1 := kept_row a3 r1
    have r2 := kept_row a3 r2
    clear c0 c1 c2 c3
    obtain ⟨c0, c1⟩ := row2 r1
    obtain ⟨c2, c3⟩ := row2 r2
    cases c with
    | false =>
      go_wp2
      go_ret
      exact ⟨ret_bool (by rw [← HR.out]; simp [wit, HC.out]), b3⟩
    | true =>
      obtain ⟨l, rfl⟩ : ∃ n : Nat, l = n := ⟨l.toNat, by have := vok_pos HB.out; omega⟩
      obtain ⟨i, rfl⟩ : ∃ n : Nat, i = n := ⟨i.toNat, by have := vok_pos HB.out; omega⟩
      obtain ⟨m, rfl⟩ : ∃ n : Nat, m = n := ⟨m.toNat, by have := vok_pos HC.out; omega⟩
      obtain ⟨j, rfl⟩ : ∃ n : Nat, j = n := ⟨j.toNat, by have := vok_pos HC.out; omega⟩
      have HL := Lib.hid (fun w' => leaves_b l i w' HB.out)
      have HM := Lib.hid (fun w' => leaves_b m j w' HC.out)
      have HW := Lib.hid (within_law l i m j)
      generalize i * 2 ^ l = p at HL HW
      generalize p + 2 ^ l = q at HL HW
      generalize j * 2 ^ m = p' at HM HW
      generalize p' + 2 ^ m = q' at HM HW
      go_wp2_with fail
      refine (HL.out _).mono ?_
      rintro e w4 ⟨rfl, a4⟩
      have r1 := kept_row a4 r1
      have r2 := kept_row a4 r2
      have b4 := b3.trans (a4.mono b3.size)
      clear c0 c1 c2 c3
      have hlt := (Array.getElem?_eq_some_iff.1 r2).1
      go_wp2_with (refine wl_load_row rfl 31 _ rfl (w.heap.size + 1) rfl 31 #[.int .i64 m, .int .i64 j] (0, 0) _ (at_old _ _ _ hlt r2) Try.underlying31 rfl (by kernel_rfl) ?_)
      refine (HM.out _).mono ?_
      rintro e w5 ⟨rfl, a5⟩
      have r4 := kept_row a5 (at_new w4 _ _ rfl)
      have b5 := (b4.alloc b4.size (.cells #[.int .i64 p, .int .i64 q] 46)).trans (a5.mono (by have := b4.size; simp; omega))
      have hlt5 := (Array.getElem?_eq_some_iff.1 r4).1
      obtain ⟨d0, d1⟩ := row2 (at_old w5 (.cells #[.int .i64 p', .int .i64 q'] 46) _ hlt5 r4)
      obtain ⟨d2, d3⟩ := row2 (at_new w5 (.cells #[.int .i64 p', .int .i64 q'] 46) _ rfl)
      have b6 := b5.alloc b5.size (.cells #[.int .i64 p', .int .i64 q'] 46)
      by_cases h1 : p' ≤ p
      · by_cases h2 : q ≤ q'
        · have h1' : (p' : Int) ≤ (p : Int) := by omega
          have h2' : (q : Int) ≤ (q' : Int) := by omega
          have hw := HW.out.1 ⟨h1, h2⟩
          have HX := Lib.hid hw
          clear h1 h2 hw
          go_wp2
          go_ret
          exact ⟨ret_bool (by rw [← HR.out]; simp only [wit, HB.out, HC.out, Bool.true_and]; exact (wit_nat HX.out).symm), b6⟩
        · have h1' : (p' : Int) ≤ (p : Int) := by omega
          have h2' : ¬ (q : Int) ≤ (q' : Int) := by omega
          have hw : ¬ (l ≤ m ∧ j = i / 2 ^ (m - l)) := fun h => h2 (HW.out.2 h).2
          have HX := Lib.hid hw
          clear h1 h2 hw
          go_wp2
          go_ret
          exact ⟨ret_bool (by rw [← HR.out]; simp only [wit, HB.out, HC.out, Bool.true_and]; rw [wit_nat' HX.out]; simp; omega), b6⟩
      · have h1' : ¬ (p' : Int) ≤ (p : Int) := by omega
        have hw : ¬ (l ≤ m ∧ j = i / 2 ^ (m - l)) := fun h => h1 (HW.out.2 h).1
        have HX := Lib.hid hw
        clear h1 hw
        go_wp2
        go_ret
        exact ⟨ret_bool (by rw [← HR.out]; simp only [wit, HB.out, HC.out, Bool.true_and]; exact (wit_nat' HX.out).symm), b6⟩
end Go.Proofs.Ytcjnheabkdalbaa
