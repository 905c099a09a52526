/- Sub of both; two digests' lists that are the same. -/
import Derived.Test.YtbjbdnlgoifamaaDoorRq
import Derived.Test.YtbjbdnlgoifamaaDoorOd
namespace Go.Proofs.YtbjbdnlgoifamaaDoor
open Go.RowKit Cop
set_option linter.unusedVariables false
set_option linter.unusedSimpArgs false
theorem dgs_info : (Tryd.prog.info? 24).map (fun i => (i.zero, i.size, i.bytes)) = some (some (.agg (bv (List.replicate 32 0))), 32, 32) := by kernel_rfl
theorem dcs_one (l : List (List UInt8)) : ∀ c ∈ dcs l, c.oneCell' = true := by
  intro c hc
  simp only [dcs, List.mem_flatMap] at hc
  obtain ⟨x, _, hc⟩ := hc
  simp [bl] at hc; obtain ⟨b, _, rfl⟩ := hc; rfl
end Go.Proofs.YtbjbdnlgoifamaaDoor
