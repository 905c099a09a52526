/- SHA-256 in plain Lean: words, a block's schedule, its compression; what the walk's numbers are in these words. -/
import Derived.Test.YtlhebogbbkjahaaDoorBe
namespace Cop
open Go Go.RowKit
/-- Turned to the right by k places. -/
def rr (k : Nat) (x : UInt32) : UInt32 := (x >>> UInt32.ofNat k) ||| (x <<< UInt32.ofNat (32 - k))
theorem shr32 (x : UInt32) (k : Nat) (hk : k < 32) : (((x >>> UInt32.ofNat k).toNat : Nat) : Int) = (x.toNat : Int) / 2 ^ k := by
  rw [UInt32.toNat_shiftRight, UInt32.toNat_ofNat', Nat.mod_eq_of_lt (by omega : k < 2 ^ 32), Nat.mod_eq_of_lt hk, Nat.shiftRight_eq_div_pow]
  simp
theorem shl32 (x : UInt32) (k : Nat) (hk : k < 32) : (((x <<< UInt32.ofNat k).toNat : Nat) : Int) = ((x.toNat : Int) * 2 ^ k) % 4294967296 := by
  rw [UInt32.toNat_shiftLeft, UInt32.toNat_ofNat', Nat.mod_eq_of_lt (by omega : k < 2 ^ 32), Nat.mod_eq_of_lt hk, Nat.shiftLeft_eq]
  simp
theorem rr_or (k : Nat) (x : UInt32) : rr k x = (x <<< UInt32.ofNat (32 - k)) ||| (x >>> UInt32.ofNat k) := by rw [rr, UInt32.or_comm]
/-- The two small sums of the schedule. -/
def sg0 (x : UInt32) : UInt32 := rr 7 x ^^^ rr 18 x ^^^ (x >>> UInt32.ofNat 3)
def sg1 (x : UInt32) : UInt32 := rr 17 x ^^^ rr 19 x ^^^ (x >>> UInt32.ofNat 10)
/-- Word number t of bytes. -/
def word (b : List UInt8) (t : Nat) : UInt32 :=
  ((b.getD (4 * t) 0).toUInt32 <<< UInt32.ofNat 24) ||| ((b.getD (4 * t + 1) 0).toUInt32 <<< UInt32.ofNat 16) ||| ((b.getD (4 * t + 2) 0).toUInt32 <<< UInt32.ofNat 8) ||| (b.getD (4 * t + 3) 0).toUInt32
/-- One word more of a schedule. -/
def wnext (w : List UInt32) : UInt32 := sg1 (w.getD (w.length - 2) 0) + w.getD (w.length - 7) 0 + sg0 (w.getD (w.length - 15) 0) + w.getD (w.length - 16) 0
/-- The first t words of a block's schedule. -/
def sched (b : List UInt8) : Nat → List UInt32
  | 0 => []
  | t + 1 => sched b t ++ [if t < 16 then word b t else wnext (sched b t)]
theorem sched_length (b : List UInt8) (t : Nat) : (sched b t).length = t := by induction t with
  | zero => rfl
  | succ t ih => simp [sched, ih]
/-- Eight words. -/
structure H8 where
  a : UInt32
  b : UInt32
  c : UInt32
  d : UInt32
  e : UInt32
  f : UInt32
  g : UInt32
  h : UInt32
def H8.l (s : H8) : List UInt32 := [s.a, s.b, s.c, s.d, s.e, s.f, s.g, s.h]
/-- As cells. -/
def hv (s : H8) : Array Value := #[.int .u32 s.a.toNat, .int .u32 s.b.toNat, .int .u32 s.c.toNat, .int .u32 s.d.toNat, .int .u32 s.e.toNat, .int .u32 s.f.toNat, .int .u32 s.g.toNat, .int .u32 s.h.toNat]
theorem hv_wv (s : H8) : hv s = wv s.l := rfl
theorem hv_size (s : H8) : (hv s).size = 8 := rfl
def kst : List UInt32 := [
  0x428a2f98, 0x71374491, 0xb5c0fbcf, 0xe9b5dba5, 0x3956c25b, 0x59f111f1, 0x923f82a4, 0xab1c5ed5,
  0xd807aa98, 0x12835b01, 0x243185be, 0x550c7dc3, 0x72be5d74, 0x80deb1fe, 0x9bdc06a7, 0xc19bf174,
  0xe49b69c1, 0xefbe4786, 0x0fc19dc6, 0x240ca1cc, 0x2de92c6f, 0x4a7484aa, 0x5cb0a9dc, 0x76f988da,
  0x983e5152, 0xa831c66d, 0xb00327c8, 0xbf597fc7, 0xc6e00bf3, 0xd5a79147, 0x06ca6351, 0x14292967,
  0x27b70a85, 0x2e1b2138, 0x4d2c6dfc, 0x53380d13, 0x650a7354, 0x766a0abb, 0x81c2c92e, 0x92722c85,
  0xa2bfe8a1, 0xa81a664b, 0xc24b8b70, 0xc76c51a3, 0xd192e819, 0xd6990624, 0xf40e3585, 0x106aa070,
  0x19a4c116, 0x1e376c08, 0x2748774c, 0x34b0bcb5, 0x391c0cb3, 0x4ed8aa4a, 0x5b9cca4f, 0x682e6ff3,
  0x748f82ee, 0x78a5636f, 0x84c87814, 0x8cc70208, 0x90befffa, 0xa4506ceb, 0xbef9a3f7, 0xc67178f2]
theorem kst_length : kst.length = 64 := rfl
def hbegin : H8 := ⟨0x6a09e667, 0xbb67ae85, 0x3c6ef372, 0xa54ff53a, 0x510e527f, 0x9b05688c, 0x1f83d9ab, 0x5be0cd19⟩
def uOf (s : H8) (k w : UInt32) : UInt32 := s.h + (rr 6 s.e ^^^ rr 11 s.e ^^^ rr 25 s.e) + ((s.e &&& s.f) ^^^ (~~~s.e &&& s.g)) + k + w
def vOf (s : H8) : UInt32 := (rr 2 s.a ^^^ rr 13 s.a ^^^ rr 22 s.a) + ((s.a &&& s.b) ^^^ (s.a &&& s.c) ^^^ (s.b &&& s.c))
/-- A round. -/
def round (s : H8) (k w : UInt32) : H8 := ⟨uOf s k w + vOf s, s.a, s.b, s.c, s.d + uOf s k w, s.e, s.f, s.g⟩
/-- The first t rounds. -/
def rounds (w : List UInt32) (s : H8) : Nat → H8
  | 0 => s
  | t + 1 => round (rounds w s t) (kst.getD t 0) (w.getD t 0)
def H8.add (s t : H8) : H8 := ⟨s.a + t.a, s.b + t.b, s.c + t.c, s.d + t.d, s.e + t.e, s.f + t.f, s.g + t.g, s.h + t.h⟩
/-- The words behind a block. -/
def compress (s : H8) (b : List UInt8) : H8 := (rounds (sched b 64) s 64).add s
/-! The walk's numbers -/
theorem bnot32 (a : UInt32) : bits .xor .u32 4294967295 (a.toNat : Int) = ((~~~a).toNat : Int) := by
  have := bxor32 0xffffffff a
  have e : ((0xffffffff : UInt32).toNat : Int) = 4294967295 := rfl
  rw [e] at this
  rw [this]
  congr 2
theorem wadd32' (a b : UInt32) : ((a.toNat : Int) + (b.toNat : Int)) % 4294967296 = ((a + b).toNat : Int) := by
  rw [UInt32.toNat_add]; omega
theorem u8to32 (a : UInt8) : (a.toNat : Int) = ((a.toUInt32).toNat : Int) := by rw [UInt8.toNat_toUInt32]
end Cop
