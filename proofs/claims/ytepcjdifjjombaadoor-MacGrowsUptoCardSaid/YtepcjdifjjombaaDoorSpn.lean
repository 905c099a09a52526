/- spoil of a slice of the call's own: what else stands, stands. -/
import Derived.Test.YtepcjdifjjombaaDoorSpm
import Derived.Test.YtepcjdifjjombaaDoorOt
namespace Go.Proofs.YtepcjdifjjombaaDoor
open Go.RowKit Cop
set_option linter.unusedVariables false
set_option linter.unusedSimpArgs false
theorem spoil_empty (A : Option Addr) (c : Nat) (w : World) : Calls Tryd.prog 40 #[.slice A 0 c] w fun e w' => e = .returned (.tuple #[]) ∧ w = w' := by
  go_enter Tryd.func40, Tryd.ntmps40
  go_wp2
  go_loopw [2] (fun s2 wr => s2 = .int .i64 0 ∧ wr = w) (fun s2 _ => 0)
  case atStart => exact ⟨rfl, rfl⟩
  case round =>
    obtain ⟨rfl, rfl⟩ := hrel
    go_wp2
    go_end0
    exact ⟨rfl, rfl⟩
theorem spoil_S {B : Nat} {w0 w : World} {R : List Pc} {v : Value} {n : Nat} {l : List UInt8} (HS : Sep B w0 w (.own v 5 1 n (bl l) :: R)) (hn : n ≤ 9223372036854775807) :
    Calls Tryd.prog 40 #[v] w fun e w' => e = .returned (.tuple #[]) ∧ Sep B w0 w' R := by
  have HO := HS.own 0 rfl
  rcases Nat.eq_zero_or_pos n with h0 | h0
  · subst h0
    obtain ⟨A, c, rfl, _⟩ := HO.sl
    refine (spoil_empty A c w).mono ?_
    rintro e w' ⟨rfl, rfl⟩
    exact ⟨rfl, HS.tail⟩
  · rcases Ow.own_of HO with ⟨_, _, hn0, _⟩ | hown
    · omega
    obtain ⟨g, cap, rfl, _⟩ := own_form hown h0
    have hc : n ≤ cap := by obtain ⟨A, c, he, hc⟩ := HO.sl; injection he with _ _ h3; omega
    refine (spoil_a _ l B n w hn hown).mono ?_
    rintro e w' ⟨rfl, h3⟩
    refine ⟨rfl, (HS.turn (q := .rd (.slice none 0 0) 0 1 []) rfl h3.os h3.tape h3.output h3.size (fun k hk hne => h3.block k hk fun e => hne (by simp [Value.ownBlock] at e; simp [Pc.blk, vblk, e]; omega)) (Rd.nil w' 1) (fun k hk => by simp [Pc.blk, rblk] at hk)).tail⟩
end Go.Proofs.YtepcjdifjjombaaDoor
