/- octet.put, PutUint64. -/
import Derived.Test.YtkgdjddcnlkppaaDoorBx
namespace Go.Proofs.YtkgdjddcnlkppaaDoor
open Go.RowKit Cop
set_option linter.unusedVariables false
set_option linter.unusedSimpArgs false
set_option maxRecDepth 100000 in
set_option maxHeartbeats 4000000 in
theorem put_a (l : List UInt8) (n : Nat) (v : Value) (w : World) (hR : Rd w v l.length 1 (bl l)) (hn : n < 18446744073709551616) (hl : l.length ≤ 140737488354000) :
    Calls Tryd.prog 54 #[v, .int .u64 n, .int .i64 8] w fun e w' => ∃ x, e = .returned x ∧ Below w.heap.size w w' ∧ Ow w' w.heap.size 5 1 x (l ++ be 8 n).length (bl (l ++ be 8 n)) := by
  have CB := Lib.hid (fun w hR => clone_bytes v l w hR (by omega))
  obtain ⟨A, c, rfl, hc, hcm⟩ := hR.shape
  have HS0 := (Sep.start w).arg0 hR
  obtain ⟨f, hf⟩ : ∃ f : Nat → List UInt8, ∀ k, f k = l ++ (be 8 n).take k := ⟨_, fun _ => rfl⟩
  have hf0 : f 0 = l := by rw [hf]; simp
  have hf8 : f 8 = l ++ be 8 n := by rw [hf, List.take_of_length_le (by rw [be_length]; omega)]
  have hfl : ∀ k, (f k).length ≤ l.length + 8 := fun k => by rw [hf, List.length_append, List.length_take, be_length]; omega
  have hfs : ∀ j k, j + k = 7 → f k ++ [UInt8.ofNat (n / 256 ^ j)] = f (k + 1) := fun j k h => by
    rw [hf, hf, be_take 8 n k (by omega), show 8 - 1 - k = j from by omega, List.append_assoc]
  rw [← hf8]
  have HF0 := Lib.hid hf0
  have HFL := Lib.hid hfl
  have HFS := Lib.hid hfs
  clear hf hf0 hf8 hfl hfs hR
  go_enter Tryd.func54, Tryd.ntmps54
  go_wp2_with fail
  refine (CB.out w (HS0.rd 0 rfl)).mono ?_
  rintro e w1 ⟨x, rfl, b1, o1⟩
  have HS1 := HS0.made b1 o1
  rw [← HF0.out] at HS1
  clear HS0 o1 b1
  go_wp2
  go_loopw [7, 8] (fun s7 s8 wr => ∃ j k : Nat, j + k = 8 ∧ s8 = .int .i64 ((j : Int) - 1) ∧ Sep w.heap.size w wr (.own s7 5 1 (f k).length (bl (f k)) :: [])) (fun _ s8 _ => (intOf s8 + 1).toNat)
  case atStart => exact ⟨8, 0, rfl, rfl, HS1.sub (by repeat (first | exact List.nil_sublist _ | exact List.Sublist.refl _ | apply List.Sublist.cons_cons | apply List.Sublist.cons))⟩
  case round =>
    clear HS1
    obtain ⟨j, k, hjk, rfl, HSi⟩ := hrel
    have Hjk := Lib.hid hjk
    have hj8 : j ≤ 8 := by omega
    obtain ⟨A7, c7, rfl, _⟩ := (HSi.own 0 rfl).sl
    cases j with
    | zero =>
      have hk8 : k = 8 := by omega
      subst hk8
      clear hjk
      go_wp2
      go_ret
      exact ⟨_, rfl, HSi.hb, HSi.own 0 rfl⟩
    | succ m =>
      have hm7 : m ≤ 7 := by omega
      clear hjk
      rw [show (((m + 1 : Nat) : Int) - 1) = (m : Int) from by omega]
      obtain ⟨y, hy⟩ : ∃ y, UInt8.ofNat (n / 256 ^ m) = y := ⟨_, rfl⟩
      have HB := Lib.hid (show [Value.int .u8 ((n : Int) / 2 ^ (8 * m) % 256)] = bl [y] by
        rw [show (n : Int) / 2 ^ (8 * m) % 256 = (y.toNat : Int) by rw [← hy, byte_of, ← pow256]; simp]; rfl)
      have HY := Lib.hid (show f k ++ [y] = f (k + 1) by rw [← hy]; exact HFS.out m k (by have := Hjk.out; omega))
      have HYL := Lib.hid (show (f k).length + 1 = (f (k + 1)).length by rw [← HY.out, List.length_append]; rfl)
      have hlk := HFL.out (k + 1)
      clear hy
      go_wp2_with (first | refine wl_bs HSi rfl 33 5 1 1 _ rfl [Value.int .u8 ((n : Int) / 2 ^ (8 * m) % 256)] (.int .u8 0) Tryd.underlying33 (by kernel_rfl) (by decide) (by decide) (by kernel_rfl) rfl ?_)
      intro g2 w2 HS2
      rw [HB.out] at HS2
      go_wp2_with (refine wl_apb (cs := [y]) HS2 1 rfl rfl rfl (HS2.own 0 rfl).rd rfl rfl (f (k + 1)).length (f (k + 1)) HYL.out HY.out (by omega) ?_)
      intro v5 w5 HS5 _
      clear HSi HS2
      go_wp2
      go_roundw
      case rel => exact ⟨m, k + 1, by have := Hjk.out; omega, by go_num, HS5.tail⟩
      case measure => simp [intOf]
theorem putU64_a (l : List UInt8) (n : Nat) (v : Value) (w : World) (hR : Rd w v l.length 1 (bl l)) (hn : n < 18446744073709551616) (hl : l.length ≤ 140737488354000) :
    Calls Tryd.prog 36 #[v, .int .u64 n] w fun e w' => ∃ x, e = .returned x ∧ Below w.heap.size w w' ∧ Ow w' w.heap.size 5 1 x (l ++ be 8 n).length (bl (l ++ be 8 n)) := by
  have CP := Lib.hid (put_a l n v w hR hn hl)
  obtain ⟨A, c, rfl, hc, hcm⟩ := hR.shape
  clear hR
  go_enter Tryd.func36, Tryd.ntmps36
  go_wp2_with fail
  refine CP.out.mono ?_
  rintro e w1 ⟨x, rfl, b1, o1⟩
  go_wp2
  go_ret
  exact ⟨_, rfl, b1, o1⟩
end Go.Proofs.YtkgdjddcnlkppaaDoor
