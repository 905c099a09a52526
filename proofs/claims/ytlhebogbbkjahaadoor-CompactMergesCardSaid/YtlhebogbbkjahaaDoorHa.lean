import Derived.Test.YtlhebogbbkjahaaDoorRows
import Derived.Test.YtlhebogbbkjahaaDoorRd
import Derived.Test.YtlhebogbbkjahaaDoorSha
namespace Go.Proofs.YtlhebogbbkjahaaDoor
open Go.RowKit Cop
set_option linter.unusedVariables false
theorem hk_and : ∀ k : Nat, 0 < k → k < 32 → bits .and .u64 (IntKind.u64.wrap (-(k : Int))) 31 = ((32 - k : Nat) : Int) := by
  intro k h1 h2
  have : ∀ k : Fin 32, 0 < k.val → bits .and .u64 (IntKind.u64.wrap (-(k.val : Int))) 31 = ((32 - k.val : Nat) : Int) := by decide +kernel
  exact this ⟨k, h2⟩ h1
theorem rotl (x : UInt32) (k : Nat) (w : World) (h1 : 0 < k) (h2 : k < 32) :
    Calls Tryd.prog 104 #[.int .u32 x.toNat, .int .i64 (-(k : Int))] w fun e w' => e = .returned (.int .u32 ((rr k x).toNat : Int)) ∧ w = w' := by
  have hand := hk_and k h1 h2
  obtain ⟨s, hs⟩ : ∃ s : Nat, 32 - k = s := ⟨_, rfl⟩
  have hk : (k : Int) = 32 - s := by omega
  have H := Lib.hid (show rr k x = (x <<< UInt32.ofNat s) ||| (x >>> UInt32.ofNat (32 - s)) by rw [rr_or, hs, ← hs]; congr; omega)
  rw [hs] at hand
  have hs1 : s < 32 := by omega
  have hs2 : 0 < s := by omega
  clear hs
  generalize -(k : Int) = K at *
  clear hk h1 h2
  go_enter Tryd.func104, Tryd.ntmps104
  go_wp2
  go_ret
  refine ⟨ret_int ?_, rfl⟩
  rw [H.out, ← bor32, shl32 _ _ hs1, shr32 _ _ (by omega)]
theorem ror_a (x : UInt32) (k : Nat) (w : World) (h1 : 0 < k) (h2 : k < 32) :
    Calls Tryd.prog 100 #[.int .u32 x.toNat, .int .i64 k] w fun e w' => e = .returned (.int .u32 ((rr k x).toNat : Int)) ∧ w = w' := by
  have hc := rotl x k w h1 h2
  go_enter Tryd.func100, Tryd.ntmps100
  go_wp2_with fail
  refine hc.mono ?_
  clear hc
  rintro e w' ⟨rfl, rfl⟩
  go_wp2
  go_ret
  exact ⟨rfl, rfl⟩
theorem ror_b (x : UInt32) (k : Nat) (w : World) (h1 : 0 < k) (h2 : k < 32) :
    Calls Tryd.prog 103 #[.int .u32 x.toNat, .int .u64 k] w fun e w' => e = .returned (.int .u32 ((rr k x).toNat : Int)) ∧ w = w' := by
  go_enter Tryd.func103, Tryd.ntmps103
  go_wp2
  go_ret
  refine ⟨ret_int ?_, rfl⟩
  rw [rr, ← bor32, shl32 _ _ (by omega), shr32 _ _ (by omega)]
theorem ror_aq (x : UInt32) (k : Nat) (K : Int) (w : World) (hK : K = (k : Int)) (h1 : 0 < k) (h2 : k < 32) :
    Calls Tryd.prog 100 #[.int .u32 x.toNat, .int .i64 K] w fun e w' => e = .returned (.int .u32 ((rr k x).toNat : Int)) ∧ w' = w := by
  subst hK; exact (ror_a x k w h1 h2).mono fun e w' ⟨h1, h2⟩ => ⟨h1, h2.symm⟩
theorem ror_bq (x : UInt32) (k : Nat) (K : Int) (w : World) (hK : K = (k : Int)) (h1 : 0 < k) (h2 : k < 32) :
    Calls Tryd.prog 103 #[.int .u32 x.toNat, .int .u64 K] w fun e w' => e = .returned (.int .u32 ((rr k x).toNat : Int)) ∧ w' = w := by
  subst hK; exact (ror_b x k w h1 h2).mono fun e w' ⟨h1, h2⟩ => ⟨h1, h2.symm⟩
end Go.Proofs.YtlhebogbbkjahaaDoor
