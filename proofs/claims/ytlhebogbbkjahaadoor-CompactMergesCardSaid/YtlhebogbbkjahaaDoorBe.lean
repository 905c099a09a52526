/- Numbers as bytes, the highest first: plain. -/
import Derived.Test.YtlhebogbbkjahaaDoorRd
namespace Cop
open Go Go.RowKit
/-- The lowest n bytes of a number, the highest first. -/
def be : Nat → Nat → List UInt8
  | 0, _ => []
  | n + 1, v => UInt8.ofNat (v / 256 ^ n) :: be n v
theorem be_length (n v : Nat) : (be n v).length = n := by induction n with
  | zero => rfl
  | succ n ih => simp [be, ih]
theorem be_get (n v : Nat) : ∀ i, i < n → (be n v)[i]? = some (UInt8.ofNat (v / 256 ^ (n - 1 - i))) := by
  induction n with
  | zero => intro i h; omega
  | succ n ih =>
    intro i h
    cases i with
    | zero => simp [be]
    | succ i => rw [be, List.getElem?_cons_succ, ih i (by omega)]; congr 4; omega
theorem be_take (n v k : Nat) (h : k < n) : (be n v).take (k + 1) = (be n v).take k ++ [UInt8.ofNat (v / 256 ^ (n - 1 - k))] := by
  have h1 := be_get n v k h
  rw [List.take_add_one, h1]; rfl
theorem pow256 (m : Nat) : (2 : Nat) ^ (8 * m) = 256 ^ m := by rw [Nat.pow_mul]
theorem byte_of (q : Nat) : (((UInt8.ofNat q).toNat : Nat) : Int) = (q : Int) % 256 := by rw [UInt8.toNat_ofNat']; omega
/-- The padding behind n bytes. -/
def pad (n : Nat) : List UInt8 := 0x80 :: (List.replicate ((119 - n % 64) % 64) 0 ++ be 8 (n * 8))
theorem pad_length (n : Nat) : (pad n).length = 9 + (119 - n % 64) % 64 := by simp [pad, be_length]; omega
end Cop
