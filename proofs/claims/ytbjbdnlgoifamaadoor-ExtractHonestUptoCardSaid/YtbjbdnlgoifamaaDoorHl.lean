/- The greatest power of two below a number. -/
import Derived.Test.YtbjbdnlgoifamaaDoorTc
import Derived.Test.YtbjbdnlgoifamaaDoorShelf
import Derived.Test.YtbjbdnlgoifamaaDoorTr
namespace Go.Proofs.YtbjbdnlgoifamaaDoor
open Go.RowKit Cop
set_option linter.unusedVariables false
set_option linter.unusedSimpArgs false
theorem shl_one {m : Nat} (h : m ≤ 62) : wrap64 (2 ^ m : Int) = ((2 ^ m : Nat) : Int) := by
  have h1 : 2 ^ m ≤ 2 ^ 62 := Nat.pow_le_pow_right (by decide) h
  have h2 : ((2 ^ m : Nat) : Int) = (2 : Int) ^ m := by simp
  rw [← h2]
  generalize 2 ^ m = q at h1
  unfold wrap64; omega
theorem half_len {n : Int} (h2 : 2 ≤ n) (hn : n ≤ 9223372036854775807) : ∃ m : Nat, Lib.bitLen (n - 1).toNat = m ∧ 1 ≤ m ∧ m ≤ 63 ∧ 2 ^ (m - 1) = hf n.toNat := by
  refine ⟨_, rfl, bitLen_pos (by omega) (by omega), bitLen_le (by omega) (by omega), ?_⟩
  have := half_bits (n := n.toNat) (by omega) (by omega)
  rwa [show n.toNat - 1 = (n - 1).toNat from by omega] at this
set_option maxHeartbeats 400000 in
theorem half_a (n : Int) (w : World) (h2 : 2 ≤ n) (hn : n ≤ 9223372036854775807) :
    Calls Tryd.prog 49 #[.int .i64 n] w fun e w' => e = .returned (.int .i64 ((hf n.toNat : Nat) : Int)) ∧ w = w' := by
  obtain ⟨m, hm, h1, h3, h4⟩ := half_len h2 hn
  have H4 := Lib.hid h4
  have H5 := Lib.hid (shl_one (m := m - 1) (by omega))
  clear h4
  have hc := Tryd.bits_Len (n - 1) w (by omega) (by omega)
  rw [hm] at hc
  have HM := Lib.hid hm
  clear hm
  go_enter Tryd.func49, Tryd.ntmps49
  go_wp2_with fail
  refine hc.mono ?_
  clear hc
  rintro e w' ⟨rfl, rfl⟩
  go_wp2
  go_ret
  exact ⟨ret_int (by have := H5.out; rw [H4.out] at this; rw [← this]), rfl⟩
set_option maxHeartbeats 400000 in
theorem half_v (n : Int) (w : World) (h2 : 2 ≤ n) (hn : n ≤ 9223372036854775807) :
    Calls Tryd.prog 94 #[.int .i64 n] w fun e w' => e = .returned (.int .i64 ((hf n.toNat : Nat) : Int)) ∧ w = w' := by
  obtain ⟨m, hm, h1, h3, h4⟩ := half_len h2 hn
  have H4 := Lib.hid h4
  have H5 := Lib.hid (shl_one (m := m - 1) (by omega))
  clear h4
  have hc := Tryd.bits_Len (n - 1) w (by omega) (by omega)
  rw [hm] at hc
  have HM := Lib.hid hm
  clear hm
  go_enter Tryd.func94, Tryd.ntmps94
  go_wp2_with fail
  refine hc.mono ?_
  clear hc
  rintro e w' ⟨rfl, rfl⟩
  go_wp2
  go_ret
  exact ⟨ret_int (by have := H5.out; rw [H4.out] at this; rw [← this]), rfl⟩
set_option maxHeartbeats 400000 in
theorem half_w (n : Nat) (w : World) (h2 : 2 ≤ n) (hn : n ≤ 4611686018427387904) :
    Calls Tryd.prog 98 #[.int .i64 n] w fun e w' => e = .returned (.int .i64 ((hf n : Nat) : Int)) ∧ w = w' := by
  have HF := Lib.hid (fun j h h2 => hf_eq (n := n) (j := j) h h2)
  go_enter Tryd.func98, Tryd.ntmps98
  go_wp2
  go_loopw [3] (fun s3 wr => ∃ k j : Nat, s3 = .int .i64 k ∧ k = 2 ^ j ∧ k < n ∧ wr = w) (fun s3 _ => n - (intOf s3).toNat)
  case atStart => exact ⟨1, 0, rfl, rfl, by omega, rfl⟩
  case round =>
    obtain ⟨k, j, rfl, hk, hlt, rfl⟩ := hrel
    have hk0 : 0 < k := by rw [hk]; exact Nat.pow_pos (by decide)
    have HK := Lib.hid hk
    clear hk
    by_cases hc : k < n - k
    · have hc' : (k : Int) < (n : Int) - (k : Int) := by omega
      have hc2 : (k : Int) * 2 < (n : Int) := by omega
      go_wp2
      go_roundw
      case rel => exact ⟨k * 2, j + 1, by go_num, by rw [HK.out, Nat.pow_succ], by omega, trivial⟩
      case measure => simp [intOf]; omega
    · have hc' : ¬ (k : Int) < (n : Int) - (k : Int) := by omega
      have hc2 : ¬ (k : Int) * 2 < (n : Int) := by omega
      go_wp2
      go_ret
      exact ⟨ret_int (by rw [HF.out j (by rw [← HK.out]; omega) (by rw [Nat.pow_succ, ← HK.out]; omega), HK.out]), rfl⟩
end Go.Proofs.YtbjbdnlgoifamaaDoor
