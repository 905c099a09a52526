import Derived.Test.YtepcjdifjjombaaDoorSh
namespace Go.Proofs.YtepcjdifjjombaaDoor
open Go.RowKit Cop
set_option linter.unusedVariables false
set_option linter.unusedSimpArgs false
theorem len_nil (w : World) : Calls Tryd.prog 25 #[.pointer none] w fun e w' => e = .returned (.int .i64 0) ∧ w' = w := by
  have HN := Lib.hid none_nil
  go_enter Tryd.func25, Tryd.ntmps25
  go_wp2_with fail
  refine (HN.out _).mono ?_
  rintro e w2 ⟨rfl, rfl⟩
  go_wp2
  go_ret
  exact ⟨rfl, rfl⟩
theorem len_st (m : Bool) (n : Int) (g : Nat) (w : World) (hc : w.cell? ⟨g, 0, none⟩ = some (.bool m)) (hn : w.cell? ⟨g, 9, none⟩ = some (.int .i64 n)) : Calls Tryd.prog 25 #[.pointer (some ⟨g, 0, none⟩)] w fun e w' => e = .returned (.int .i64 (if m then n else 0)) ∧ w' = w := by
  have HN := Lib.hid (fun w h => none_st m g w h)
  have HC := Lib.hid hc
  cases m with
  | false =>
    go_enter Tryd.func25, Tryd.ntmps25
    go_wp2_with fail
    refine (HN.out _ HC.out).mono ?_
    rintro e w2 ⟨rfl, rfl⟩
    go_wp2
    go_ret
    exact ⟨rfl, rfl⟩
  | true =>
    go_enter Tryd.func25, Tryd.ntmps25
    go_wp2_with fail
    refine (HN.out _ HC.out).mono ?_
    rintro e w2 ⟨rfl, rfl⟩
    go_wp2
    go_ret
    exact ⟨rfl, rfl⟩
/-- What no call made takes nothing. -/
theorem write_none (v : Value) (A : Option Addr) (k c : Nat) (w : World) (hv : v = .slice A k c) (p : Option Addr) (hp : p = none ∨ ∃ g, p = some ⟨g, 0, none⟩ ∧ w.cell? ⟨g, 0, none⟩ = some (.bool false)) :
    Calls Tryd.prog 23 #[.pointer p, v] w fun e w' => e = .returned (.int .i64 1) ∧ w' = w := by
  subst hv
  have HN : Hid (Calls Tryd.prog 49 #[.pointer p] w fun e w' => e = .returned (.bool true) ∧ w' = w) := by
    rcases hp with rfl | ⟨g, rfl, hc⟩
    · exact Lib.hid (none_nil w)
    · exact Lib.hid (none_st false g w hc)
  clear hp
  go_enter Tryd.func23, Tryd.ntmps23
  go_wp2_with fail
  refine HN.out.mono ?_
  rintro e w2 ⟨rfl, rfl⟩
  go_wp2
  go_ret
  exact ⟨rfl, rfl⟩
end Go.Proofs.YtepcjdifjjombaaDoor
