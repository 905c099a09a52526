import Derived.Test.YtbdmehgbdnninaaDoorHe
namespace Go.Proofs.YtbdmehgbdnninaaDoor
open Go.RowKit Cop
set_option linter.unusedVariables false
set_option linter.unusedSimpArgs false
set_option maxRecDepth 100000 in
set_option maxHeartbeats 4000000 in
theorem constants_b (w : World) :
    Calls Tryd.prog 100 #[] w fun e w' => e = .returned (.agg (wv kst)) ∧ Below w.heap.size w w' := by
  go_enter Tryd.func100, Tryd.ntmps100
  go_wp2_with (refine wl_store_row rfl 130 _ _ rfl w.heap.size rfl 130 _ (wv kst) rfl (at_new _ _ _ rfl) info_w64 rfl (wv_one _) ?_)
  refine ret_row rfl rfl w.heap.size rfl 130 (wv kst) (0, 0) _ (setRow_heap _ _ _ _ _ _ (at_new _ _ _ rfl)) Tryd.underlying130 rfl info_w64 ⟨rfl, below_setRow ((Below.refl _ _).alloc (Nat.le_refl _) _) (Nat.le_refl _) _⟩
end Go.Proofs.YtbdmehgbdnninaaDoor
