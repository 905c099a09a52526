/- The reference's keyed digest. -/
import Derived.Test.YtepcjdifjjombaaDoorTg
namespace Go.Proofs.YtepcjdifjjombaaDoor
open Go.RowKit Cop
set_option linter.unusedVariables false
theorem macref_b (k m : List UInt8) (vk vm : Value) (w : World) (hRk : Rd w vk k.length 1 (bl k)) (hRm : Rd w vm m.length 1 (bl m)) (hk : k.length ≤ 140737488351232) (hm : m.length ≤ 140737488354900) :
    Calls Tryd.prog 41 #[vk, vm] w fun e w' => e = .returned (.agg (bv (hmac k m))) ∧ Below w.heap.size w w' :=
  refmac_gen sha sha_length sum_b k m (hmac k m) (key64 k) (kpad (key64 k) 0x36) (kpad (key64 k) 0x5c) rfl rfl rfl rfl vk vm w hRk hRm hk hm
end Go.Proofs.YtepcjdifjjombaaDoor
