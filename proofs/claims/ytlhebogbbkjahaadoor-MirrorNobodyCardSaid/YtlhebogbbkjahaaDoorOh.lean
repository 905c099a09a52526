/- A writer that is passed over in a drawn region. -/
import Derived.Test.YtlhebogbbkjahaaDoorOg
set_option linter.unusedVariables false
namespace Cop
open Go Go.RowKit
section
variable {P : Program} {Q : Exit → Act → World → Prop} {S : World → Prop} {z : Nat} {l : List Oper} {a : Act} {w : World} {i : Nat} {k : Ord} {o : Oper}
theorem og_rskip (ho : l[i]? = some o) (hw : Region.wanted o (yielded l.toArray a.tmps) = false) (hS : S w) (a' : Act) (ha : a.put o.dst undef = a') (h : Shut 0 (wpOrd P l.toArray Q S z k a' w)) :
    Shut 0 (wpOrd P l.toArray Q S z (.run i k) a w) := by
  subst ha
  refine ⟨?_⟩
  unfold wpOrd wpOp
  rw [show l.toArray[i]? = some o by simpa using ho]
  simp only [hw, Bool.false_eq_true, if_false]
  exact ⟨fun _ => hS, h.out⟩
end
end Cop
