import Derived.Test.YtlhebogbbkjahaaDoorHe
namespace Go.Proofs.YtlhebogbbkjahaaDoor
open Go.RowKit Cop
set_option linter.unusedVariables false
set_option linter.unusedSimpArgs false
set_option maxRecDepth 100000 in
set_option maxHeartbeats 4000000 in
theorem constants_b (w : World) :
    Calls Tryd.prog 102 #[] w fun e w' => e = .returned (.agg (wv kst)) ∧ Below w.heap.size w w' := by
  go_enter Tryd.func102, Tryd.ntmps102
  go_wp2_with (refine wl_store_row rfl 176 _ _ rfl w.heap.size rfl 176 _ (wv kst) rfl (at_new _ _ _ rfl) info_w64 rfl (wv_one _) ?_)
  refine ret_row rfl rfl w.heap.size rfl 176 (wv kst) (0, 0) _ (setRow_heap _ _ _ _ _ _ (at_new _ _ _ rfl)) Tryd.underlying176 rfl info_w64 ⟨rfl, below_setRow ((Below.refl _ _).alloc (Nat.le_refl _) _) (Nat.le_refl _) _⟩
end Go.Proofs.YtlhebogbbkjahaaDoor
