import Derived.Test.YtlhebogbbkjahaaDoorSg
namespace Go.Proofs.YtlhebogbbkjahaaDoor
open Go.RowKit Cop
set_option linter.unusedVariables false
set_option linter.unusedSimpArgs false
/-- A state's cells. -/
def stv (m : Bool) (h : H8) (n : Int) (r : Value) : Array Value := #[.bool m, .int .u32 h.a.toNat, .int .u32 h.b.toNat, .int .u32 h.c.toNat, .int .u32 h.d.toNat, .int .u32 h.e.toNat, .int .u32 h.f.toNat, .int .u32 h.g.toNat, .int .u32 h.h.toNat, .int .i64 n, r]
theorem none_nil (w : World) : Calls Tryd.prog 87 #[.pointer none] w fun e w' => e = .returned (.bool true) ∧ w' = w := by
  go_enter Tryd.func87, Tryd.ntmps87
  go_wp2
  go_ret
  exact ⟨rfl, rfl⟩
theorem none_st (m : Bool) (g : Nat) (w : World) (hc : w.cell? ⟨g, 0, none⟩ = some (.bool m)) : Calls Tryd.prog 87 #[.pointer (some ⟨g, 0, none⟩)] w fun e w' => e = .returned (.bool (!m)) ∧ w' = w := by
  go_enter Tryd.func87, Tryd.ntmps87
  go_wp2
  go_ret
  exact ⟨rfl, rfl⟩
theorem new_a (w : World) : Calls Tryd.prog 76 #[] w fun e w' => ∃ g, e = .returned (.pointer (some ⟨g, 0, none⟩)) ∧ w.heap.size ≤ g ∧ Below w.heap.size w w' ∧ w'.heap[g]? = some (.cells (stv true hbegin 0 (.slice none 0 0)) 166 (0, 0)) := by
  go_enter Tryd.func76, Tryd.ntmps76
  go_wp2_with fail
  refine (begin_a _).mono ?_
  rintro e w2 ⟨rfl, b2⟩
  go_wp2
  go_ret
  exact ⟨_, rfl, b2.size, b2.alloc b2.size _, at_new _ _ _ rfl⟩
end Go.Proofs.YtlhebogbbkjahaaDoor
