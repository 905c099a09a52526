/- Proved here: any key is expanded to any number of bytes, or refused, as the document says. The table of constants is tied to the program's text. No condition. -/
import Derived.Test.YtkgdjddcnlkppaaDoorEy
import Derived.Test.YtkgdjddcnlkppaaDoorSpm
import Derived.Test.YtkgdjddcnlkppaaDoorFMacExpands
namespace Go.Proofs.YtkgdjddcnlkppaaDoor
open Go.RowKit Cop
set_option linter.unusedVariables false
set_option linter.unusedSimpArgs false
theorem names_03e (w : World) : Calls Tryd.prog 19 #[] w fun e w' => e = .returned (.bool true) ∧ w = w' := by
  go_enter Tryd.func19, Tryd.ntmps19
  go_wp2
  go_ret
  exact ⟨rfl, rfl⟩
/-- What cannot be told is refused. -/
theorem expand_no (key : List UInt8) (n : Int) (h : n < 0 ∨ (¬ n < 0 ∧ 8160 < n)) : ∃ E : Int,
    (∀ A l c w, Calls Tryd.prog 20 #[.agg (bv key), .slice A l c, .int .i64 n] w fun e w' => e = .returned (.tuple #[.slice none 0 0, .int .i64 E]) ∧ Below w.heap.size w w') ∧
    ∀ A l c w, Calls Tryd.prog 21 #[.agg (bv key), .slice A l c, .int .i64 n] w fun e w' => e = .returned (.tuple #[.slice none 0 0, .int .i64 E]) ∧ Below w.heap.size w w' := by
  rcases h with h | ⟨h1, h2⟩
  · refine ⟨2, fun A l c w => ?_, fun A l c w => ?_⟩
    · have HS := Sep.start w
      go_enter Tryd.func20, Tryd.ntmps20
      go_wp2_with (first | refine wl_bx HS rfl 23 _ rfl (bv key) rfl ?_)
      intro g3 w1 HS1
      go_wp2
      go_ret2
      exact ⟨rfl, HS1.hb⟩
    · have HS := Sep.start w
      go_enter Tryd.func21, Tryd.ntmps21
      go_wp2_with (first | refine wl_bx HS rfl 23 _ rfl (bv key) rfl ?_)
      intro g3 w1 HS1
      go_wp2
      go_ret2
      exact ⟨rfl, HS1.hb⟩
  · refine ⟨3, fun A l c w => ?_, fun A l c w => ?_⟩
    · have HS := Sep.start w
      go_enter Tryd.func20, Tryd.ntmps20
      go_wp2_with (first | refine wl_bx HS rfl 23 _ rfl (bv key) rfl ?_)
      intro g3 w1 HS1
      go_wp2
      go_ret2
      exact ⟨rfl, HS1.hb⟩
    · have HS := Sep.start w
      go_enter Tryd.func21, Tryd.ntmps21
      go_wp2_with (first | refine wl_bx HS rfl 23 _ rfl (bv key) rfl ?_)
      intro g3 w1 HS1
      go_wp2
      go_ret2
      exact ⟨rfl, HS1.hb⟩
end Go.Proofs.YtkgdjddcnlkppaaDoor
