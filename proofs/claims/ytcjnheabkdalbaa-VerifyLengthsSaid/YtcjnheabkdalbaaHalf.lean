import Derived.Test.YtcjnheabkdalbaaRows
import Derived.Test.YtcjnheabkdalbaaLib
import Derived.Test.YtcjnheabkdalbaaTr
import Derived.Test.YtcjnheabkdalbaaShelf
namespace Go.Proofs.Ytcjnheabkdalbaa
open Go.RowKit Cop
set_option linter.unusedVariables false

theorem shl_one {m : Nat} (h : m ≤ 62) : wrap64 (2 ^ m : Int) = ((2 ^ m : Nat) : Int) := by
  have h1 : 2 ^ m ≤ 2 ^ 62 := Nat.pow_le_pow_right (by decide) h
  have h2 : ((2 ^ m : Nat) : Int) = (2 : Int) ^ m := by simp
  rw [← h2]
  generalize 2 ^ m = q at h1
  unfold wrap64; omega
theorem half_len {n : Int} (h2 : 2 ≤ n) (hn : n ≤ 9223372036854775807) : ∃ m : Nat, Lib.bitLen (n - 1).toNat = m ∧ 1 ≤ m ∧ m ≤ 63 ∧ 2 ^ (m - 1) = hf n.toNat := by
  refine ⟨_, rfl, bitLen_pos (by omega) (by omega), bitLen_le (by omega) (by omega), ?_⟩
  have := half_bits (n := n.toNat) (by omega) (by omega)
  rwa [show n.toNat - 1 = (n - 1).toNat from by omega] at this

set_option maxHeartbeats 400000 in
theorem half48 (n : Int) (w : World) (h2 : 2 ≤ n) (hn : n ≤ 9223372036854775807) :
    Calls Try.prog 48 #[.int .i64 n] w fun e w' => e = .returned (.int .i64 ((hf n.toNat : Nat) : Int)) ∧ w = w' := by
  obtain ⟨m, hm, h1, h3, h4⟩ := half_len h2 hn
  have H4 := Lib.hid h4
  have H5 := Lib.hid (shl_one (m := m - 1) (by omega))
  clear h4
  have hc := Try.bits_Len (n - 1) w (by omega) (by omega)
  rw [hm] at hc
  have HM := Lib.hid hm
  clear hm
  go_enter Try.func48, Try.ntmps48
  go_wp2_with fail
  refine hc.mono ?_
  clear hc
  rintro e w' ⟨rfl, rfl⟩
  go_wp2
  go_ret
  exact ⟨ret_int (by have := H5.out; rw [H4.out] at this; rw [← this]), rfl⟩

set_option maxHeartbeats 400000 in
theorem half49 (n : Int) (w : World) (h2 : 2 ≤ n) (hn : n ≤ 9223372036854775807) :
    Calls Try.prog 49 #[.int .i64 n] w fun e w' => e = .returned (.int .i64 ((hf n.toNat : Nat) : Int)) ∧ w = w' := by
  obtain ⟨m, hm, h1, h3, h4⟩ := half_len h2 hn
  have H4 := Lib.hid h4
  have H5 := Lib.hid (shl_one (m := m - 1) (by omega))
  clear h4
  have hc := Try.bits_Len (n - 1) w (by omega) (by omega)
  rw [hm] at hc
  have HM := Lib.hid hm
  clear hm
  go_enter Try.func49, Try.ntmps49
  go_wp2_with fail
  refine hc.mono ?_
  clear hc
  rintro e w' ⟨rfl, rfl⟩
  go_wp2
  go_ret
  exact ⟨ret_int (by have := H5.out; rw [H4.out] at this; rw [← this]), rfl⟩

set_option maxHeartbeats 400000 in
theorem half63 (n : Int) (w : World) (h2 : 2 ≤ n) (hn : n ≤ 9223372036854775807) :
    Calls Try.prog 63 #[.int .i64 n] w fun e w' => e = .returned (.int .i64 ((hf n.toNat : Nat) : Int)) ∧ w = w' := by
  obtain ⟨m, hm, h1, h3, h4⟩ := half_len h2 hn
  have H4 := Lib.hid h4
  have H5 := Lib.hid (shl_one (m := m - 1) (by omega))
  clear h4
  have hc := Try.bits_Len (n - 1) w (by omega) (by omega)
  rw [hm] at hc
  have HM := Lib.hid hm
  clear hm
  go_enter Try.func63, Try.ntmps63
  go_wp2_with fail
  refine hc.mono ?_
  clear hc
  rintro e w' ⟨rfl, rfl⟩
  go_wp2
  go_ret
  exact ⟨ret_int (by have := H5.out; rw [H4.out] at this; rw [← this]), rfl⟩

end Go.Proofs.Ytcjnheabkdalbaa
