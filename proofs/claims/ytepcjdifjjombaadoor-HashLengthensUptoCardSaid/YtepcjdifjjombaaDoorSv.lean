/- hash.State.Save. -/
import Derived.Test.YtepcjdifjjombaaDoorTe
import Derived.Test.YtepcjdifjjombaaDoorBx
namespace Go.Proofs.YtepcjdifjjombaaDoor
open Go.RowKit Cop
set_option linter.unusedVariables false
set_option linter.unusedSimpArgs false
/-- A saved state. -/
def savD (h : H8) (n : Nat) (r : List UInt8) : List UInt8 := (wb h.l ++ be 8 n) ++ r
theorem savD_length (h : H8) (n : Nat) (r : List UInt8) : (savD h n r).length = 40 + r.length := by
  rw [savD, List.length_append, List.length_append, wb_length, be_length, show h.l.length = 8 from rfl]
set_option maxRecDepth 100000 in
set_option maxHeartbeats 4000000 in
theorem save_gen (W Z : List UInt8) (hW : W.length = 32) {B : Nat} {w0 w : World} {R : List Pc} (HS : Sep B w0 w R) (i j : Nat) {g : Nat} {h : H8} {n : Nat} {v : Value} {r : List UInt8} (hi : R[i]? = some (.row g (stv true h n v) 50)) (hj : R[j]? = some (.own v 5 1 r.length (bl r))) (hn : n < 9223372036854775808) (hr : r.length ≤ 1000)
    (CW : ∀ w, Calls Tryd.prog 51 #[.agg (hv h)] w fun e w' => ∃ x, e = .returned x ∧ Below w.heap.size w w' ∧ w'.ownsRow w.heap.size 5 1 x 32 (bl W)) (hZ : (W ++ be 8 n) ++ r = Z) :
    Calls Tryd.prog 30 #[.pointer (some ⟨g, 0, none⟩)] w fun e w' => ∃ x, e = .returned x ∧ Sep B w0 w' (.own x 5 1 Z.length (bl Z) :: R) := by
  have HN := Lib.hid (none_S HS i hi)
  obtain ⟨A, c, rfl, hc⟩ := (HS.own j hj).sl
  have HI := Lib.hid hi
  have HJ := Lib.hid hj
  have CW := Lib.hid CW
  obtain ⟨f, hf⟩ : ∃ f : Nat → List UInt8, ∀ k, f k = W ++ (be 8 n).take k := ⟨_, fun _ => rfl⟩
  have HF0 := Lib.hid (show W = f 0 by rw [hf]; simp)
  have HF0L := Lib.hid (show 32 = (f 0).length by rw [← HF0.out, hW])
  have HF8 := Lib.hid (show f 8 ++ r = Z by rw [hf, List.take_of_length_le (by rw [be_length]; omega), hZ])
  have HF8L := Lib.hid (show (f 8).length + r.length = Z.length by rw [← HF8.out, List.length_append])
  have HFL := Lib.hid (fun k => show (f k).length ≤ 40 by rw [hf, List.length_append, List.length_take, be_length]; omega)
  have HFS := Lib.hid (fun j k (h : j + k = 7) => show f k ++ [UInt8.ofNat (n / 256 ^ j)] = f (k + 1) by
    rw [hf, hf, be_take 8 n k (by omega), show 8 - 1 - k = j from by omega, List.append_assoc])
  have hZl : Z.length ≤ 1040 := by have := HFL.out 8; have := HF8L.out; omega
  clear hf hi hj hZ hW
  go_enter Tryd.func30, Tryd.ntmps30
  go_wp2_with fail
  refine HN.out.mono ?_
  rintro e w2 ⟨rfl, rfl⟩
  clear HN
  go_wp2_with (first | refine wl_ldx rfl 23 _ rfl (.pointer (some ⟨g, 1, none⟩)) rfl _ (load_mid (HS.row i HI.out) 1 (hv h) (stv_h true h n _) 23 Tryd.underlying23 rfl info_h8) ?_)
  refine (CW.out _).mono ?_
  rintro e w3 ⟨x, rfl, b3, o3⟩
  have HS3 := HS.madeRow b3 o3
  rw [HF0.out, HF0L.out] at HS3
  clear HS o3 b3 CW
  go_wp2
  go_loopw [3, 4] (fun s3 s4 wr => ∃ j k : Nat, j + k = 8 ∧ s4 = .int .i64 ((j : Int) - 1) ∧ Sep B w0 wr (.own s3 5 1 (f k).length (bl (f k)) :: R)) (fun _ s4 _ => (intOf s4 + 1).toNat)
  case atStart => exact ⟨8, 0, rfl, rfl, HS3⟩
  case round =>
    clear HS3
    obtain ⟨jj, k, hjk, rfl, HSi⟩ := hrel
    have Hjk := Lib.hid hjk
    have hj8 : jj ≤ 8 := by omega
    obtain ⟨A7, c7, rfl, _⟩ := (HSi.own 0 rfl).sl
    have c9 := cell_n HSi (i + 1) HI.out
    have c10 := cell_r HSi (i + 1) HI.out
    cases jj with
    | zero =>
      have hk8 : k = 8 := by omega
      subst hk8
      clear hjk
      go_wp2_with (refine wl_apb HSi 0 rfl rfl rfl (HSi.own (j + 1) HJ.out).rd rfl rfl Z.length Z HF8L.out HF8.out (by omega) ?_)
      intro v4 w4 HS4 _
      go_wp2
      go_ret
      exact ⟨_, rfl, HS4⟩
    | succ m =>
      have hm7 : m ≤ 7 := by omega
      clear hjk
      rw [show (((m + 1 : Nat) : Int) - 1) = (m : Int) from by omega]
      obtain ⟨y, hy⟩ : ∃ y, UInt8.ofNat (n / 256 ^ m) = y := ⟨_, rfl⟩
      have HB := Lib.hid (show [Value.int .u8 ((n : Int) / 2 ^ (8 * m) % 256)] = bl [y] by
        rw [show (n : Int) / 2 ^ (8 * m) % 256 = (y.toNat : Int) by rw [← hy, byte_of, ← pow256]; simp]; rfl)
      have HY := Lib.hid (show f k ++ [y] = f (k + 1) by rw [← hy]; exact HFS.out m k (by have := Hjk.out; omega))
      have HYL := Lib.hid (show (f k).length + 1 = (f (k + 1)).length by rw [← HY.out, List.length_append]; rfl)
      have hlk := HFL.out (k + 1)
      clear hy c10
      go_wp2_with (first | refine wl_bs HSi rfl 30 5 1 1 _ rfl [Value.int .u8 ((n : Int) / 2 ^ (8 * m) % 256)] (.int .u8 0) Tryd.underlying30 (by kernel_rfl) (by decide) (by decide) (by kernel_rfl) rfl ?_)
      intro g2 w2 HS2
      rw [HB.out] at HS2
      go_wp2_with (refine wl_apb (cs := [y]) HS2 1 rfl rfl rfl (HS2.own 0 rfl).rd rfl rfl (f (k + 1)).length (f (k + 1)) HYL.out HY.out (by omega) ?_)
      intro v5 w5 HS5 _
      clear HSi HS2
      go_wp2
      go_roundw
      case rel => exact ⟨m, k + 1, by have := Hjk.out; omega, by go_num, HS5.tail⟩
      case measure => simp [intOf]
theorem save_S {B : Nat} {w0 w : World} {R : List Pc} (HS : Sep B w0 w R) (i j : Nat) {g : Nat} {h : H8} {n : Nat} {v : Value} {r : List UInt8} (hi : R[i]? = some (.row g (stv true h n v) 50)) (hj : R[j]? = some (.own v 5 1 r.length (bl r))) (hn : n < 9223372036854775808) (hr : r.length ≤ 1000) :
    Calls Tryd.prog 30 #[.pointer (some ⟨g, 0, none⟩)] w fun e w' => ∃ x, e = .returned x ∧ Sep B w0 w' (.own x 5 1 (savD h n r).length (bl (savD h n r)) :: R) :=
  save_gen (wb h.l) _ (by rw [wb_length]; rfl) HS i j hi hj hn hr (words_a h) rfl
end Go.Proofs.YtepcjdifjjombaaDoor
