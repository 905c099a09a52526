/- Proved here: tree.Split tells of any number the greatest power of two below it, or its error; for any number, without condition. -/
import Derived.Test.YtcjnheabkdalbaaHalf
import Derived.Test.YtcjnheabkdalbaaFTreeSplits
namespace Go.Proofs.Ytcjnheabkdalbaa
open Go.RowKit Cop
set_option linter.unusedVariables false
theorem split_lo (n : Int) (w : World) (h : n < 2) (hw : (Lit.int .i64 n).wf = true) :
    Calls Try.prog 31 #[.int .i64 n] w fun e w' => e = .returned (.tuple #[.int .i64 0, .int .i64 40]) ∧ w = w' := by
  go_enter Try.func31, Try.ntmps31
  go_wp2
  go_ret2
  exact ⟨rfl, rfl⟩
theorem split_hi (n : Int) (w : World) (h2 : 2 ≤ n) (hn : n ≤ 9223372036854775807) :
    Calls Try.prog 31 #[.int .i64 n] w fun e w' => e = .returned (.tuple #[.int .i64 ((hf n.toNat : Nat) : Int), .int .i64 0]) ∧ w = w' := by
  go_enter Try.func31, Try.ntmps31
  go_wp2_with (go_at_call 48; refine (half48 _ _ h2 hn).mono ?_; rintro e w' ⟨rfl, rfl⟩)
  go_ret2
  exact ⟨rfl, rfl⟩
/-- A power of two and the number below it. -/
theorem pow_and (j : Nat) (h : j ≤ 62) : bits .and .i64 ((2 ^ j : Nat) : Int) (((2 ^ j : Nat) : Int) - 1) = 0 := by
  have hk : ∀ n : Int, 0 ≤ n → n < 2 ^ 63 → IntKind.i64.wrap n = n := fun n h0 h1 => by rw [IntKind.wrap_i64]; omega
  have h1 : 2 ^ j ≤ 2 ^ 62 := Nat.pow_le_pow_right (by decide) h
  have e : ((2 ^ j : Nat) : Int) = (2 : Int) ^ j := by simp
  have := bits_mask .i64 63 (by decide) hk j (by omega) ((2 ^ j : Nat) : Int) (Int.natCast_nonneg _) (by generalize 2 ^ j = q at h1; omega)
  rw [← e] at this
  rw [this, Int.emod_self]
set_option maxHeartbeats 400000 in
theorem treeSplits_walk (n : Int) (w : World) (hw : (Lit.int .i64 n).wf = true) :
    Calls Try.prog 8 #[.int .i64 n] w fun e w' => e = .returned (.bool true) ∧ Below w.heap.size w w' := by
  have hbd := bounds_i64 hw
  by_cases h : n < 2
  · go_enter Try.func8, Try.ntmps8
    go_wp2_with (first | (go_at_call 31; refine (split_lo _ _ h hw).mono ?_; rintro e w' ⟨rfl, rfl⟩) | go_in)
    go_ret
    exact ⟨rfl, Below.refl _ _⟩
  · have h2 : 2 ≤ n := by omega
    have h5 : 1 ≤ hf n.toNat := hf_pos _
    have h3 : hf n.toNat < n.toNat := hf_lt (by omega)
    have h4 : n.toNat ≤ 2 * hf n.toNat := hf_ge (by omega)
    have H6 := Lib.hid (show bits .and .i64 ((hf n.toNat : Nat) : Int) (((hf n.toNat : Nat) : Int) - 1) = 0 from pow_and _ (by
      have h8 := Nat.log2_lt (n := n.toNat - 1) (k := 63) (by omega)
      omega))
    have hc := split_hi n w h2 (by omega)
    generalize hf n.toNat = k at *
    go_enter Try.func8, Try.ntmps8
    go_wp2_with (first | (go_at_call 31; refine hc.mono ?_; clear hc; rintro e w' ⟨rfl, rfl⟩) | go_in)
    go_ret
    exact ⟨ret_bool (by show (_ == (0 : Int)) = true; rw [H6.out]; rfl), Below.refl _ _⟩

theorem treeSplits_holds : Rows.TreeSplitsSaid := treeSplits.row_of_walk fun H enc W base v0 d0 p0 h0 k0 _ => by
  obtain ⟨n, rfl, _, _, hw⟩ := Go.ChangeShapes.open_int Try.underlying3 k0 h0
  exact treeSplits_walk n W hw
#print axioms treeSplits_holds
end Go.Proofs.Ytcjnheabkdalbaa
