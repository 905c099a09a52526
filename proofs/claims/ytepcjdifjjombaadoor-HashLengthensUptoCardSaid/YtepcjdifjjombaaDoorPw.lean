/- What is saved is a saved state: plain. -/
import Derived.Test.YtepcjdifjjombaaDoorLw
namespace Go.Proofs.YtepcjdifjjombaaDoor
open Go.RowKit Cop
set_option linter.unusedVariables false
theorem num_be' : ∀ (n v a : Nat), (be n v).foldl (fun v b => v * 256 + b.toNat) a = a * 256 ^ n + v % 256 ^ n
  | 0, v, a => by simp [be, Nat.mod_one]
  | n + 1, v, a => by
    have key : v % 256 ^ (n + 1) = v % 256 ^ n + 256 ^ n * (v / 256 ^ n % 256) := by rw [Nat.pow_succ, Nat.mod_mul]
    have hp : a * 256 ^ (n + 1) = a * 256 * 256 ^ n := by rw [Nat.pow_succ, Nat.mul_comm (256 ^ n) 256, Nat.mul_assoc]
    have hb : (UInt8.ofNat (v / 256 ^ n)).toNat = v / 256 ^ n % 256 := UInt8.toNat_ofNat'
    rw [be, List.foldl_cons, num_be' n v, hb, key, hp, Nat.add_mul, Nat.mul_comm (v / 256 ^ n % 256) (256 ^ n), Nat.add_assoc, Nat.add_comm (256 ^ n * (v / 256 ^ n % 256)) (v % 256 ^ n)]
theorem num_be (n v : Nat) (h : v < 256 ^ n) : num (be n v) = v := by
  rw [num, num_be', Nat.zero_mul, Nat.zero_add, Nat.mod_eq_of_lt h]
theorem wb_at : ∀ (l : List UInt32) (k : Nat) (x : UInt32) (s : List UInt8), l[k]? = some x → ((wb l ++ s).drop (4 * k)).take 4 = be 4 x.toNat
  | [], k, x, s, h => by simp at h
  | a :: l, 0, x, s, h => by
    simp at h
    subst h
    rw [wb, List.flatMap_cons, Nat.mul_zero, List.drop_zero, List.append_assoc, List.take_append_of_le_length (by rw [be_length]; exact Nat.le_refl _), List.take_of_length_le (by rw [be_length]; exact Nat.le_refl _)]
  | a :: l, k + 1, x, s, h => by
    simp at h
    have := wb_at l k x s h
    rw [wb, List.flatMap_cons, List.append_assoc, show 4 * (k + 1) = (be 4 a.toNat).length + 4 * k from by rw [be_length]; omega, ← List.drop_drop, List.drop_left]
    exact this
theorem savD_word (h : H8) (n : Nat) (r : List UInt8) (k : Nat) (x : UInt32) (hk : h.l[k]? = some x) : word (savD h n r) k = x := by
  have hlt : k < 8 := (List.getElem?_eq_some_iff.1 hk).1
  have h1 := word_num4 (savD h n r) k (by rw [savD_length]; omega)
  rw [savD, List.append_assoc, wb_at _ _ _ _ hk, num_be 4 _ (by have := x.toNat_lt; exact this)] at h1
  have := x.toNat_lt
  rw [← List.append_assoc] at h1
  have h2 : x.toNat = (word ((wb h.l ++ be 8 n) ++ r) k).toNat := by omega
  exact (UInt32.toNat_inj.1 h2).symm
theorem savD_lwd (h : H8) (n : Nat) (r : List UInt8) : lwd (savD h n r) = h := by
  rw [lwd, savD_word h n r 0 h.a rfl, savD_word h n r 1 h.b rfl, savD_word h n r 2 h.c rfl, savD_word h n r 3 h.d rfl, savD_word h n r 4 h.e rfl, savD_word h n r 5 h.f rfl, savD_word h n r 6 h.g rfl, savD_word h n r 7 h.h rfl]
theorem savD_lnum (h : H8) (n : Nat) (r : List UInt8) (hn : n < 18446744073709551616) : lnum (savD h n r) = n := by
  have e : ((savD h n r).drop 32).take 8 = be 8 n := by
    have hw : (wb h.l).length = 32 := by rw [wb_length]; rfl
    rw [savD, List.append_assoc, show 32 = (wb h.l).length from hw.symm, List.drop_left, List.take_append_of_le_length (by rw [be_length]; exact Nat.le_refl _), List.take_of_length_le (by rw [be_length]; exact Nat.le_refl _)]
  rw [lnum, e]
  exact num_be 8 n (by have : (256 : Nat) ^ 8 = 18446744073709551616 := by decide
                       omega)
theorem savD_drop (h : H8) (n : Nat) (r : List UInt8) : (savD h n r).drop 40 = r := by
  have hw : (wb h.l ++ be 8 n).length = 40 := by rw [List.length_append, wb_length, be_length]; rfl
  rw [savD, show 40 = (wb h.l ++ be 8 n).length from hw.symm, List.drop_left]
/-- A state that calls can come to. -/
structure Sound (h : H8) (n : Nat) (r : List UInt8) : Prop where
  hn : n ≤ 2305843009213693951
  hr : r.length = n % 64
  hb : n < 64 → h = hbegin
theorem Sound.lok {h : H8} {n : Nat} {r : List UInt8} (s : Sound h n r) : lok (savD h n r) := by
  refine ⟨?_, ?_, ?_⟩
  · rw [savD_lnum h n r (by have := s.hn; omega)]; exact s.hn
  · rw [savD_lnum h n r (by have := s.hn; omega), savD_length, s.hr]; omega
  · rw [savD_lnum h n r (by have := s.hn; omega), savD_lwd]
    intro hl
    rw [s.hb hl]
theorem Sound.begin : Sound hbegin 0 [] := ⟨by decide, rfl, fun _ => rfl⟩
theorem Sound.write {h : H8} {n : Nat} {r : List UInt8} (s : Sound h n r) (l : List UInt8) (hl : n + l.length ≤ 2305843009213693951) : Sound (over h (r ++ l)) (n + l.length) (tl (r ++ l)) := by
  refine ⟨hl, ?_, fun hlt => ?_⟩
  · rw [tl, List.length_drop, List.length_append, s.hr]; omega
  · have := s.hr
    rw [over_small h (r ++ l) (by rw [List.length_append]; omega)]
    exact s.hb (by omega)
end Go.Proofs.YtepcjdifjjombaaDoor
