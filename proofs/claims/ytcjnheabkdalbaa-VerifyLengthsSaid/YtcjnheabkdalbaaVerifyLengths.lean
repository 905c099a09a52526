/- Proved here: for any numbers the length of an inclusion's and of a consistency's proof is the document's, or its error (verify.Length, verify.Steps); without condition. -/
import Derived.Test.YtcjnheabkdalbaaVW
import Derived.Test.YtcjnheabkdalbaaFVerifyLengths
namespace Go.Proofs.Ytcjnheabkdalbaa
open Go.RowKit Cop
set_option linter.unusedVariables false
def okI (i n : Int) : Prop := 1 ≤ n ∧ n ≤ 281474976710656 ∧ 0 ≤ i ∧ i < n
def okS (m n : Int) : Prop := 1 ≤ m ∧ m ≤ n ∧ n ≤ 281474976710656
theorem length_ok (i n : Nat) (w : World) (hi : i < n) (hn : n ≤ 281474976710656) :
    Calls Try.prog 38 #[.int .i64 i, .int .i64 n] w fun e w' => e = .returned (.tuple #[.int .i64 ((way i n).length : Nat), .int .i64 0]) ∧ Below w.heap.size w w' := by
  have h1 : 1 ≤ n := by omega
  go_enter Try.func38, Try.ntmps38
  go_wp2_with (first | (go_at_call 54; refine (way54 i n _ hi hn).mono ?_; rintro e w' ⟨v, rfl, hb, hown⟩; obtain ⟨A, c, rfl⟩ := own_slice hown; clear hown) | go_in)
  go_ret2
  exact ⟨rfl, hb⟩
theorem length_bad (i n : Int) (w : World) (h : ¬ okI i n) :
    Calls Try.prog 38 #[.int .i64 i, .int .i64 n] w fun e w' => e = .returned (.tuple #[.int .i64 0, .int .i64 40]) ∧ w = w' := by
  unfold okI at h
  by_cases h1 : 1 ≤ n
  · by_cases h2 : n ≤ 281474976710656
    · by_cases h3 : 0 ≤ i
      · have h4 : ¬ i < n := by omega
        clear h
        go_enter Try.func38, Try.ntmps38
        go_wp2
        go_ret2
        exact ⟨rfl, rfl⟩
      · clear h
        go_enter Try.func38, Try.ntmps38
        go_wp2
        go_ret2
        exact ⟨rfl, rfl⟩
    · clear h
      go_enter Try.func38, Try.ntmps38
      go_wp2
      go_ret2
      exact ⟨rfl, rfl⟩
  · clear h
    go_enter Try.func38, Try.ntmps38
    go_wp2
    go_ret2
    exact ⟨rfl, rfl⟩
theorem count56t (A : Option Addr) (L c : Nat) (w : World) (hL : L ≤ 48) :
    Calls Try.prog 56 #[.slice A L c, .bool true] w fun e w' => e = .returned (.int .i64 L) ∧ w = w' := by
  go_enter Try.func56, Try.ntmps56
  go_wp2
  go_ret
  exact ⟨rfl, rfl⟩
theorem count56f (A : Option Addr) (L c : Nat) (w : World) (hL : L ≤ 48) :
    Calls Try.prog 56 #[.slice A L c, .bool false] w fun e w' => e = .returned (.int .i64 (L + 1 : Nat)) ∧ w = w' := by
  go_enter Try.func56, Try.ntmps56
  go_wp2
  go_ret
  exact ⟨ret_int (by simp), rfl⟩
theorem stepsV_ok (m n : Nat) (w : World) (h1 : 1 ≤ m) (hi : m ≤ n) (hn : n ≤ 281474976710656) :
    Calls Try.prog 39 #[.int .i64 m, .int .i64 n] w fun e w' => e = .returned (.tuple #[.int .i64 (cnt (steps m n).1 (steps m n).2 : Nat), .int .i64 0]) ∧ Below w.heap.size w w' := by
  have hs := steps57 m n w h1 hi hn
  have hd : decide ((n : Int) ≤ 281474976710656) = true := by simp; omega
  have hlen := steps_len 48 n m (by omega)
  unfold cnt
  generalize (steps m n).1 = l at *
  generalize (steps m n).2 = b at *
  cases b
  · go_enter Try.func39, Try.ntmps39
    go_wp2_with (first | (go_at_call 57; refine hs.mono ?_; clear hs; rintro e w' ⟨v, rfl, hb, hown⟩; obtain ⟨A, c, rfl⟩ := own_slice hown; clear hown) | (go_at_call 56; refine (count56f _ _ _ _ hlen).mono ?_; rintro e w' ⟨rfl, rfl⟩) | (go_at_call 55; go_in))
    go_ret2
    exact ⟨rfl, hb⟩
  · go_enter Try.func39, Try.ntmps39
    go_wp2_with (first | (go_at_call 57; refine hs.mono ?_; clear hs; rintro e w' ⟨v, rfl, hb, hown⟩; obtain ⟨A, c, rfl⟩ := own_slice hown; clear hown) | (go_at_call 56; refine (count56t _ _ _ _ hlen).mono ?_; rintro e w' ⟨rfl, rfl⟩) | (go_at_call 55; go_in))
    go_ret2
    exact ⟨rfl, hb⟩
theorem stepsV_bad (m n : Int) (w : World) (h : ¬ okS m n) :
    Calls Try.prog 39 #[.int .i64 m, .int .i64 n] w fun e w' => e = .returned (.tuple #[.int .i64 0, .int .i64 40]) ∧ w = w' := by
  unfold okS at h
  by_cases h1 : 1 ≤ m
  · by_cases h2 : m ≤ n
    · have h3 : ¬ n ≤ 281474976710656 := by omega
      clear h
      go_enter Try.func39, Try.ntmps39
      go_wp2
      go_ret2
      exact ⟨rfl, rfl⟩
    · clear h
      go_enter Try.func39, Try.ntmps39
      go_wp2
      go_ret2
      exact ⟨rfl, rfl⟩
  · clear h
    go_enter Try.func39, Try.ntmps39
    go_wp2
    go_ret2
    exact ⟨rfl, rfl⟩
theorem rlength_ok (i n : Nat) (w : World) (hi : i < n) (hn : n ≤ 281474976710656) :
    Calls Try.prog 40 #[.int .i64 i, .int .i64 n] w fun e w' => e = .returned (.tuple #[.int .i64 ((way i n).length : Nat), .int .i64 0]) ∧ w = w' := by
  have h1 : 1 ≤ n := by omega
  go_enter Try.func40, Try.ntmps40
  go_wp2_with (go_at_call 58; refine (deep58 n n i _ (Nat.le_refl _) h1 hi hn).mono ?_; rintro e w' ⟨rfl, rfl⟩)
  go_ret2
  exact ⟨rfl, rfl⟩
theorem rlength_bad (i n : Int) (w : World) (h : ¬ okI i n) :
    Calls Try.prog 40 #[.int .i64 i, .int .i64 n] w fun e w' => e = .returned (.tuple #[.int .i64 0, .int .i64 40]) ∧ w = w' := by
  unfold okI at h
  by_cases h1 : 1 ≤ n
  · by_cases h2 : n ≤ 281474976710656
    · by_cases h3 : 0 ≤ i
      · have h4 : ¬ i < n := by omega
        clear h
        go_enter Try.func40, Try.ntmps40
        go_wp2
        go_ret2
        exact ⟨rfl, rfl⟩
      · clear h
        go_enter Try.func40, Try.ntmps40
        go_wp2
        go_ret2
        exact ⟨rfl, rfl⟩
    · clear h
      go_enter Try.func40, Try.ntmps40
      go_wp2
      go_ret2
      exact ⟨rfl, rfl⟩
  · clear h
    go_enter Try.func40, Try.ntmps40
    go_wp2
    go_ret2
    exact ⟨rfl, rfl⟩
theorem rsteps_ok (m n : Nat) (w : World) (h1 : 1 ≤ m) (hi : m ≤ n) (hn : n ≤ 281474976710656) :
    Calls Try.prog 41 #[.int .i64 m, .int .i64 n] w fun e w' => e = .returned (.tuple #[.int .i64 (cnt (steps m n).1 (steps m n).2 : Nat), .int .i64 0]) ∧ w = w' := by
  have hs := below59 n n m true w (Nat.le_refl _) h1 hi hn
  simp only [Bool.true_and] at hs
  go_enter Try.func41, Try.ntmps41
  go_wp2_with (go_at_call 59; refine hs.mono ?_; clear hs; rintro e w' ⟨rfl, rfl⟩)
  go_ret2
  exact ⟨rfl, rfl⟩
theorem rsteps_bad (m n : Int) (w : World) (h : ¬ okS m n) :
    Calls Try.prog 41 #[.int .i64 m, .int .i64 n] w fun e w' => e = .returned (.tuple #[.int .i64 0, .int .i64 40]) ∧ w = w' := by
  unfold okS at h
  by_cases h1 : 1 ≤ m
  · by_cases h2 : m ≤ n
    · have h3 : ¬ n ≤ 281474976710656 := by omega
      clear h
      go_enter Try.func41, Try.ntmps41
      go_wp2
      go_ret2
      exact ⟨rfl, rfl⟩
    · by_cases h3 : n ≤ 281474976710656
      · clear h
        go_enter Try.func41, Try.ntmps41
        go_wp2
        go_ret2
        exact ⟨rfl, rfl⟩
      · clear h
        go_enter Try.func41, Try.ntmps41
        go_wp2
        go_ret2
        exact ⟨rfl, rfl⟩
  · by_cases h3 : n ≤ 281474976710656
    · clear h
      go_enter Try.func41, Try.ntmps41
      go_wp2
      go_ret2
      exact ⟨rfl, rfl⟩
    · clear h
      go_enter Try.func41, Try.ntmps41
      go_wp2
      go_ret2
      exact ⟨rfl, rfl⟩
/-- What all four calls tell: the same, and nothing that was there is turned. -/
theorem length_two (i n : Int) (w : World) : ∃ L e : Int, (∀ w, Calls Try.prog 38 #[.int .i64 i, .int .i64 n] w fun x w' => x = .returned (.tuple #[.int .i64 L, .int .i64 e]) ∧ Below w.heap.size w w') ∧
    (∀ w, Calls Try.prog 40 #[.int .i64 i, .int .i64 n] w fun x w' => x = .returned (.tuple #[.int .i64 L, .int .i64 e]) ∧ w = w') := by
  by_cases h : okI i n
  · obtain ⟨h1, h2, h3, h4⟩ := h
    obtain ⟨i, rfl⟩ := Int.eq_ofNat_of_zero_le h3
    obtain ⟨n, rfl⟩ := Int.eq_ofNat_of_zero_le (show 0 ≤ n by omega)
    exact ⟨_, _, fun w => length_ok i n w (by omega) (by omega), fun w => rlength_ok i n w (by omega) (by omega)⟩
  · exact ⟨0, 40, fun w => (length_bad i n w h).mono fun e w' ⟨h1, h2⟩ => ⟨h1, h2 ▸ Below.refl _ _⟩, fun w => rlength_bad i n w h⟩
theorem steps_two (m n : Int) (w : World) : ∃ L e : Int, (∀ w, Calls Try.prog 39 #[.int .i64 m, .int .i64 n] w fun x w' => x = .returned (.tuple #[.int .i64 L, .int .i64 e]) ∧ Below w.heap.size w w') ∧
    (∀ w, Calls Try.prog 41 #[.int .i64 m, .int .i64 n] w fun x w' => x = .returned (.tuple #[.int .i64 L, .int .i64 e]) ∧ w = w') := by
  by_cases h : okS m n
  · obtain ⟨h1, h2, h3⟩ := h
    obtain ⟨m, rfl⟩ := Int.eq_ofNat_of_zero_le (show 0 ≤ m by omega)
    obtain ⟨n, rfl⟩ := Int.eq_ofNat_of_zero_le (show 0 ≤ n by omega)
    exact ⟨_, _, fun w => stepsV_ok m n w (by omega) (by omega) (by omega), fun w => rsteps_ok m n w (by omega) (by omega) (by omega)⟩
  · exact ⟨0, 40, fun w => (stepsV_bad m n w h).mono fun e w' ⟨h1, h2⟩ => ⟨h1, h2 ▸ Below.refl _ _⟩, fun w => rsteps_bad m n w h⟩
set_option maxHeartbeats 400000 in
theorem verifyLengths_walk (i n : Int) (w : World) :
    Calls Try.prog 12 #[.int .i64 i, .int .i64 n] w fun e w' => e = .returned (.bool true) ∧ Below w.heap.size w w' := by
  obtain ⟨L, e1, hA, hB⟩ := length_two i n w
  obtain ⟨M, e2, hC, hD⟩ := steps_two i n w
  go_enter Try.func12, Try.ntmps12
  go_wp2_with (first | (go_at_call 38; refine (hA _).mono ?_; clear hA; rintro e w1 ⟨rfl, b1⟩) | (go_at_call 39; refine (hC _).mono ?_; clear hC; rintro e w2 ⟨rfl, b2⟩) | (go_at_call 40; refine (hB _).mono ?_; clear hB; rintro e w' ⟨rfl, rfl⟩) | (go_at_call 41; refine (hD _).mono ?_; clear hD; rintro e w' ⟨rfl, rfl⟩) | (go_at_call 42; go_in))
  go_ret
  exact ⟨rfl, bcall b1 b2⟩
theorem verifyLengths_holds : Rows.VerifyLengthsSaid := verifyLengths.row_of_walk fun H enc W base v0 v1 d0 d1 p0 p1 h0 k0 h1 k1 _ => by
  obtain ⟨i, rfl, _, _, _⟩ := Go.ChangeShapes.open_int Try.underlying3 k0 h0
  obtain ⟨n, rfl, _, _, _⟩ := Go.ChangeShapes.open_int Try.underlying3 k1 h1
  exact verifyLengths_walk i n W
#print axioms verifyLengths_holds
end Go.Proofs.Ytcjnheabkdalbaa
