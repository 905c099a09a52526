/- tile.Valid and the document's, at width 1. -/
import Derived.Test.YtfhffldgjepeaaaTv1
import Derived.Test.YtfhffldgjepeaaaTv2
import Derived.Test.YtfhffldgjepeaaaTv3
import Derived.Test.YtfhffldgjepeaaaTv4
namespace Go.Proofs.Ytfhffldgjepeaaa
open Go.RowKit Cop
set_option linter.unusedVariables false
set_option linter.unusedSimpArgs false
theorem tva (h L I : Int) (w : World) : Calls Try.prog 12 #[.agg #[.int .i64 h, .int .i64 L, .int .i64 I, .int .i64 1]] w fun e w' => e = .returned (.bool (tvo h L I)) ∧ Below w.heap.size w w' := by
  by_cases hh : 1 ≤ h ∧ h ≤ 8
  · have : h = 1 ∨ h = 2 ∨ h = 3 ∨ h = 4 ∨ h = 5 ∨ h = 6 ∨ h = 7 ∨ h = 8 := by omega
    rcases this with rfl | rfl | rfl | rfl | rfl | rfl | rfl | rfl
    · exact tva_1 L I _ rfl w
    · exact tva_2 L I _ rfl w
    · exact tva_3 L I _ rfl w
    · exact tva_4 L I _ rfl w
    · exact tva_5 L I _ rfl w
    · exact tva_6 L I _ rfl w
    · exact tva_7 L I _ rfl w
    · exact tva_8 L I _ rfl w
  · rw [show tvo h L I = false from by simp [tvo]; intro a b; exact absurd ⟨a, b⟩ hh]
    exact tva_bad h L I w hh
theorem tvb (h L I : Int) (w : World) : Calls Try.prog 9 #[.agg #[.int .i64 h, .int .i64 L, .int .i64 I, .int .i64 1]] w fun e w' => e = .returned (.bool (tvo h L I)) ∧ Below w.heap.size w w' := by
  by_cases hh : 1 ≤ h ∧ h ≤ 8
  · have : h = 1 ∨ h = 2 ∨ h = 3 ∨ h = 4 ∨ h = 5 ∨ h = 6 ∨ h = 7 ∨ h = 8 := by omega
    rcases this with rfl | rfl | rfl | rfl | rfl | rfl | rfl | rfl
    · exact tvb_1 L I _ rfl w
    · exact tvb_2 L I _ rfl w
    · exact tvb_3 L I _ rfl w
    · exact tvb_4 L I _ rfl w
    · exact tvb_5 L I _ rfl w
    · exact tvb_6 L I _ rfl w
    · exact tvb_7 L I _ rfl w
    · exact tvb_8 L I _ rfl w
  · rw [show tvo h L I = false from by simp [tvo]; intro a b; exact absurd ⟨a, b⟩ hh]
    exact tvb_bad h L I w hh
end Go.Proofs.Ytfhffldgjepeaaa
