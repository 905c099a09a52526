/- One-time signatures in plain Lean: what is signed, what is public, what a signature leads to. -/
import Derived.Test.YtkgdjddcnlkppaaDoorOa
import Derived.Test.YtkgdjddcnlkppaaDoorPh
import Derived.Test.YtkgdjddcnlkppaaDoorMc
namespace Go.Proofs.YtkgdjddcnlkppaaDoor
open Go.RowKit Cop
set_option linter.unusedVariables false
/-- Pieces put one behind the other. -/
def cats (b : List UInt8) (f : Nat → List UInt8) : Nat → List UInt8
  | 0 => b
  | n + 1 => cats b f n ++ f n
theorem cats_succ (b : List UInt8) (f : Nat → List UInt8) (n : Nat) : cats b f (n + 1) = cats b f n ++ f n := rfl
theorem cats_length (b : List UInt8) (f : Nat → List UInt8) (h : ∀ i, (f i).length = 32) (n : Nat) : (cats b f n).length = b.length + 32 * n := by
  induction n with
  | zero => rfl
  | succ n ih => rw [cats_succ, List.length_append, ih, h]; omega
theorem cats_congr (b : List UInt8) (f g : Nat → List UInt8) (n : Nat) (h : ∀ i, i < n → f i = g i) : cats b f n = cats b g n := by
  induction n with
  | zero => rfl
  | succ n ih => rw [cats_succ, cats_succ, ih (fun i hi => h i (by omega)), h n (by omega)]
theorem cats_mid (b : List UInt8) (f : Nat → List UInt8) (h : ∀ i, (f i).length = 32) (n i : Nat) (hi : i < n) : ((cats b f n).drop (b.length + 32 * i)).take 32 = f i := by
  induction n with
  | zero => omega
  | succ n ih =>
    rw [cats_succ]
    have hl := cats_length b f h n
    by_cases hn : i = n
    · subst hn
      rw [← hl, List.drop_left, List.take_of_length_le (by rw [h]; omega)]
    · rw [List.drop_append_of_le_length (by rw [hl]; omega), List.take_append_of_le_length (by rw [List.length_drop, hl]; omega)]
      exact ih (by omega)
theorem cats_head (b : List UInt8) (f : Nat → List UInt8) (n : Nat) : (cats b f n).take b.length = b := by
  induction n with
  | zero => simp [cats]
  | succ n ih =>
    rw [cats_succ, List.take_append_of_le_length ?_]
    · exact ih
    · have := congrArg List.length ih
      rw [List.length_take] at this
      omega
def saltD (s : List UInt8) : List UInt8 := childD s [115, 97, 108, 116] 0
def secretD (s : List UInt8) (i : Nat) : List UInt8 := childD s [99, 104, 97, 105, 110] i
theorem saltD_length (s : List UInt8) : (saltD s).length = 32 := childD_length _ _ _
theorem secretD_length (s : List UInt8) (i : Nat) : (secretD s i).length = 32 := childD_length _ _ _
/-- A link of a signature, of a public key. -/
def linkD (s d : List UInt8) (i : Nat) : List UInt8 := chainD (saltD s) i 0 (dgt d i) (secretD s i)
def endD (s : List UInt8) (i : Nat) : List UInt8 := chainD (saltD s) i 0 3 (secretD s i)
theorem linkD_length (s d : List UInt8) (i : Nat) : (linkD s d i).length = 32 := chainD_length _ _ _ _ _ (secretD_length _ _)
theorem endD_length (s : List UInt8) (i : Nat) : (endD s i).length = 32 := chainD_length _ _ _ _ _ (secretD_length _ _)
def signD (s d : List UInt8) : List UInt8 := cats (saltD s) (linkD s d) 133
def publicD (s : List UInt8) : List UInt8 := sha (cats ([3] ++ saltD s) (endD s) 133)
/-- The i-th digest of bytes. -/
def atD (g : List UInt8) (i : Nat) : List UInt8 := (g.drop (32 * i)).take 32
theorem atD_length (g : List UInt8) (i : Nat) (h : 32 * i + 32 ≤ g.length) : (atD g i).length = 32 := by
  unfold atD; rw [List.length_take, List.length_drop]; omega
/-- What a signature leads to, link by link. -/
def leadD (d g : List UInt8) (i : Nat) : List UInt8 := chainD (atD g 0) i (dgt d i) (3 - dgt d i) (atD g (1 + i))
def recoverD (d g : List UInt8) : List UInt8 := sha (cats ([3] ++ atD g 0) (leadD d g) 133)
theorem signD_length (s d : List UInt8) : (signD s d).length = 4288 := by
  unfold signD; rw [cats_length _ _ (linkD_length s d), saltD_length]
theorem publicD_length (s : List UInt8) : (publicD s).length = 32 := sha_length _
theorem recoverD_length (d g : List UInt8) : (recoverD d g).length = 32 := sha_length _
theorem leadD_length (d g : List UInt8) (i : Nat) (h : 32 * (1 + i) + 32 ≤ g.length) : (leadD d g i).length = 32 := chainD_length _ _ _ _ _ (atD_length _ _ h)
/-- A signature leads to the public key of its seed. -/
theorem recover_sign (s d : List UInt8) : recoverD d (signD s d) = publicD s := by
  have h0 : atD (signD s d) 0 = saltD s := by
    have := cats_head (saltD s) (linkD s d) 133
    rw [saltD_length] at this
    simpa [atD, signD] using this
  unfold recoverD publicD
  rw [h0]
  refine congrArg sha (cats_congr _ _ _ _ fun i hi => ?_)
  have h1 : atD (signD s d) (1 + i) = linkD s d i := by
    have := cats_mid (saltD s) (linkD s d) (linkD_length s d) 133 i hi
    rw [saltD_length] at this
    rw [atD, show 32 * (1 + i) = 32 + 32 * i from by omega]
    exact this
  have h2 := dgt_lt d i
  rw [leadD, h0, h1, linkD, endD]
  have := chainD_add (saltD s) i (dgt d i) (3 - dgt d i) 0 (secretD s i)
  rw [Nat.zero_add, show dgt d i + (3 - dgt d i) = 3 from by omega] at this
  exact this.symm
end Go.Proofs.YtkgdjddcnlkppaaDoor
