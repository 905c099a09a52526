import Derived.Test.YtlhebogbbkjahaaDoorHc
namespace Go.Proofs.YtlhebogbbkjahaaDoor
open Go.RowKit Cop
set_option linter.unusedVariables false
set_option linter.unusedSimpArgs false
/-- The number that bytes are, the greatest first. -/
def num (l : List UInt8) : Nat := l.foldl (fun v b => v * 256 + b.toNat) 0
theorem num_snoc (l : List UInt8) (b : UInt8) : num (l ++ [b]) = num l * 256 + b.toNat := by simp [num]
theorem num_lt' : ∀ (l : List UInt8) (v : Nat), l.foldl (fun v b => v * 256 + b.toNat) v < (v + 1) * 256 ^ l.length
  | [], v => by simp
  | b :: l, v => by
    have h1 := num_lt' l (v * 256 + b.toNat)
    have h2 := u8_lt b
    have h3 : (v * 256 + b.toNat + 1) * 256 ^ l.length ≤ ((v + 1) * 256) * 256 ^ l.length := Nat.mul_le_mul_right _ (by omega)
    rw [List.foldl_cons, List.length_cons, Nat.pow_succ, Nat.mul_comm (256 ^ l.length) 256, ← Nat.mul_assoc]
    omega
theorem num_lt (l : List UInt8) : num l < 256 ^ l.length := by have := num_lt' l 0; simpa [num] using this
theorem num_take (l : List UInt8) (k : Nat) (hk : k < l.length) : num (l.take (k + 1)) = num (l.take k) * 256 + (l.getD k 0).toNat := by
  rw [List.take_succ_eq_append_getElem hk, num_snoc]; simp [List.getD, hk]
theorem num_small (l : List UInt8) (k : Nat) (hk : k < 8) : num (l.take k) < 72057594037927936 := by
  have h1 := num_lt (l.take k)
  have h2 : 256 ^ (l.take k).length ≤ 256 ^ 7 := Nat.pow_le_pow_right (by decide) (by simp; omega)
  have : 256 ^ 7 = 72057594037927936 := by decide
  omega
set_option maxHeartbeats 1000000 in
theorem read_b (w : World) (v : Value) (l : List UInt8) (at' n : Nat) (hv : Rd w v l.length 1 (bl l)) (hn : n ≤ 8) (ha : at' + n ≤ l.length) :
    Calls Tryd.prog 52 #[v, .int .i64 at', .int .i64 n] w fun e w' => e = .returned (.tuple #[.int .u64 (num ((l.drop at').take n)), .int .i64 ((at' + n : Nat) : Int), .int .i64 0]) ∧ w = w' := by
  obtain ⟨A, c, rfl, hc, hm⟩ := hv.shape
  have HV := Lib.hid hv
  have HX := Lib.hid (fun k (hk : k < l.length - at') => num_take (l.drop at') k (by simpa using hk))
  have HS := Lib.hid (num_small (l.drop at'))
  have hl : l.length ≤ 9223372036854775807 := by omega
  clear hv
  obtain ⟨len, hlen⟩ : ∃ len, l.length = len := ⟨_, rfl⟩
  rw [hlen] at ha hl hc HV HX ⊢
  have HL := Lib.hid hlen
  clear hlen
  go_enter Tryd.func52, Tryd.ntmps52
  go_wp2
  go_loop [9, 10] (fun x i => ∃ k : Nat, k ≤ n ∧ i = .int .i64 k ∧ x = .int .u64 (num ((l.drop at').take k))) (fun _ i => n - (intOf i).toNat)
  case atStart => exact ⟨0, by omega, rfl, by simp [num]⟩
  case round =>
    obtain ⟨k, hk, rfl, rfl⟩ := hrel
    by_cases hlt : k < n
    · have hX := HX.out k (by omega)
      have hS := HS.out k (by omega)
      have e1 : (l.drop at').getD k 0 = l.getD (at' + k) 0 := by simp [List.getD]
      rw [e1] at hX
      obtain ⟨_, A', c', he, _, _, _, hcell⟩ := HV.out
      obtain ⟨bb, o, rfl, hcl⟩ := hcell (by omega)
      simp only [Value.slice.injEq, true_and] at he
      obtain ⟨rfl, rfl⟩ := he
      have hc1 := hcl (at' + k) _ (bl_get l (at' + k) (by rw [HL.out]; omega))
      clear hcell hcl e1
      generalize num ((l.drop at').take k) = x at hX hS ⊢
      generalize l.getD (at' + k) 0 = y at hX hc1
      have hy := u8_lt y
      have HX' := Lib.hid hX
      clear hX
      have hr : (at' : Int) + (k : Int) < len := by omega
      go_wp2
      exact ⟨⟨k + 1, by omega, by go_num, by rw [HX'.out]; simp⟩, by simp [intOf]; omega⟩
    · have hkn : k = n := by omega
      subst hkn
      clear hlt
      go_wp2
      go_ret3
      refine ⟨?_, rfl⟩
      first | rfl | simp
theorem word_num (a b c d : UInt8) : ((a.toUInt32 <<< UInt32.ofNat 24) ||| (b.toUInt32 <<< UInt32.ofNat 16) ||| (c.toUInt32 <<< UInt32.ofNat 8) ||| d.toUInt32).toNat = num [a, b, c, d] := by
  have h1 := u8_lt a
  have h2 := u8_lt b
  have h3 := u8_lt c
  have h4 := u8_lt d
  have e1 : (a.toUInt32 <<< UInt32.ofNat 24).toNat = 2 ^ 24 * a.toNat := by
    rw [UInt32.toNat_shiftLeft, UInt8.toNat_toUInt32, show (UInt32.ofNat 24).toNat % 32 = 24 from rfl, Nat.shiftLeft_eq]; omega
  have e2 : (b.toUInt32 <<< UInt32.ofNat 16).toNat = 2 ^ 16 * b.toNat := by
    rw [UInt32.toNat_shiftLeft, UInt8.toNat_toUInt32, show (UInt32.ofNat 16).toNat % 32 = 16 from rfl, Nat.shiftLeft_eq]; omega
  have e3 : (c.toUInt32 <<< UInt32.ofNat 8).toNat = 2 ^ 8 * c.toNat := by
    rw [UInt32.toNat_shiftLeft, UInt8.toNat_toUInt32, show (UInt32.ofNat 8).toNat % 32 = 8 from rfl, Nat.shiftLeft_eq]; omega
  rw [UInt32.toNat_or, UInt32.toNat_or, UInt32.toNat_or, e1, e2, e3, UInt8.toNat_toUInt32, Nat.or_assoc, Nat.or_assoc,
    ← Nat.two_pow_add_eq_or_of_lt (i := 8) (by omega), ← Nat.two_pow_add_eq_or_of_lt (i := 16) (by omega), ← Nat.two_pow_add_eq_or_of_lt (i := 24) (by omega)]
  simp [num]; omega
theorem rd_of_row {w : World} {g : Nat} {b : List UInt8} {t : TypeId} {fr : Nat × Nat} (h : w.heap[g]? = some (.cells (bv b) t fr)) (n : Nat) (hn : b.length = n) (hm : n ≤ 9223372036854775807) : Rd w (.slice (some ⟨g, 0, none⟩) n n) n 1 (bl b) := by
  refine ⟨by rw [bl_length, Nat.mul_one]; exact hn, some ⟨g, 0, none⟩, n, rfl, Nat.le_refl _, hm, by simp, fun h0 => ⟨g, 0, rfl, fun i u hu => ?_⟩⟩
  rw [row_cell h, Nat.zero_add, ← hu]
  simp [bv, bl]
end Go.Proofs.YtlhebogbbkjahaaDoor
