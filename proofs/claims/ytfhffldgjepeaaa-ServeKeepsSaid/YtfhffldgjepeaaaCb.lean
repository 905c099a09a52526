/- slices.Clone of bytes; an empty slice literal (where no hash is). -/
import Derived.Test.YtfhffldgjepeaaaGy
import Derived.Test.YtfhffldgjepeaaaOh
namespace Go.Proofs.Ytfhffldgjepeaaa
open Go.RowKit Cop
set_option linter.unusedVariables false
set_option linter.unusedSimpArgs false
section
variable {P : Program} {w : World} {o : Oper} {a : Act}
theorem wl_bd9 {ops : Array Oper} {rest : List Oper} {Q : Exit → Act → World → Prop} (hgd : o.guard = none) (t : TypeId) (parts : Array (Nat × Operand)) (hop : o.op = .build t parts) (vs : Array (Nat × Value)) (hvs : (parts.map fun (i, x) => (i, a.eval x)) = vs) (v : Value) (hr : (Instr.build t vs).run P w = .ok v w)
    (h : wpList P ops Q rest (a.put o.dst v) w) : wpList P ops Q (o :: rest) a w := by
  refine wl_val hgd v ?_ h
  simp only [execOp, hop, hvs, Sem.run_bind, hr, Result.andThen_ok, Sem.run_pure]
end
section
variable {P : Program} {w0 w : World} {B : Nat} {R : List Pc} {o : Oper} {a : Act}
/-- An empty slice literal. -/
theorem ow_bz {K : Act → World → Prop} {Q : Exit → Act → World → Prop} (HS : Sep B w0 w R) (t e : TypeId) (size : Nat) (ho : o.op = .buildSlice t 0 #[]) (hu : P.underlying t = some (.slice e)) (hie : (P.info? e).map (·.size) = some size)
    (h : ∀ g w1, Sep B w0 w1 (.own (.slice (some ⟨g, 0, none⟩) 0 0) e size 0 [] :: R) → K (a.put o.dst (.slice (some ⟨g, 0, none⟩) 0 0)) w1) : o.wp P a w K Q := by
  obtain ⟨ie, hi, rfl⟩ := Option.map_eq_some_iff.1 hie
  have hr : (Instr.buildSlice t 0 #[]).run P w = .ok (.slice (some ⟨w.heap.size, 0, none⟩) 0 0) (w.alloc (.cells #[] e)) := by
    simp [Instr.buildSlice, run_underlying hu, sizeOf, typeInfo, hi, newRow, Instr.fill, show Array.range 0 = #[] from rfl]
  unfold Oper.wp execOp
  simp only [ho, Sem.run_bind, List.map_toArray, List.map_nil, hr, Result.andThen_ok]
  exact h _ _ (HS.built #[] e 0 ie.size (by simp) (by decide))
theorem wl_bz {ops : Array Oper} {rest : List Oper} {Q : Exit → Act → World → Prop} (HS : Sep B w0 w R) (hgd : o.guard = none) (t e : TypeId) (size : Nat) (ho : o.op = .buildSlice t 0 #[]) (hu : P.underlying t = some (.slice e)) (hie : (P.info? e).map (·.size) = some size)
    (h : ∀ g w1, Sep B w0 w1 (.own (.slice (some ⟨g, 0, none⟩) 0 0) e size 0 [] :: R) → wpList P ops Q rest (a.put o.dst (.slice (some ⟨g, 0, none⟩) 0 0)) w1) : wpList P ops Q (o :: rest) a w :=
  wpList_plain hgd fun _ hK => ow_bz HS t e size ho hu hie fun g w1 h2 => hK _ _ (h g w1 h2)
end
/-- slices.Clone of bytes. -/
theorem clone_bytes (v : Value) (l : List UInt8) (w : World) (hR : Rd w v l.length 1 (bl l)) (hl : l.length ≤ 140737488355000) :
    Calls Try.prog 11 #[v] w fun e w' => ∃ x, e = .returned x ∧ Below w.heap.size w w' ∧ Ow w' w.heap.size 5 1 x l.length (bl l) := by
  obtain ⟨A, c, rfl, hc, hcm⟩ := hR.shape
  cases A with
  | none =>
    obtain ⟨_, A', c', he, h1, _, h2, _⟩ := hR
    injection he with e1 e2 e3
    subst e1 e3
    have hc0 := h2 rfl
    have hl0 : l.length = 0 := by omega
    have : l = [] := List.eq_nil_of_length_eq_zero hl0
    subst this
    subst hc0
    clear h1 h2 hcm hc hl
    have heq := fun w => Lib.run_eql_slice_nil (P := Try.prog) (w := w)
    go_enter Try.func11, Try.ntmps11
    go_wp2
    go_ret
    exact ⟨_, rfl, Below.refl _ _, Ow.nil _ _ _ _ _⟩
  | some a =>
    have HR := Lib.hid hR
    have HS0 := ((Sep.start w).arg0 hR).built #[] 5 0 1 rfl (by decide)
    clear hR
    have heq := fun w => Lib.run_eql_slice_nil (P := Try.prog) (w := w)
    go_enter Try.func11, Try.ntmps11
    go_wp2_with (refine wl_app HS0 0 rfl _ _ 30 (.int .u8 0) 1 rfl rfl Try.underlying30 info_u8 rfl (by decide) (by decide) (HS0.rd 1 rfl) (bl_one _) rfl rfl (by omega) ?_)
    intro v1 w1 HS1 _ _
    go_wp2
    go_ret
    refine ⟨_, rfl, HS1.hb, ?_⟩
    have := HS1.own 0 rfl
    simpa using this
end Go.Proofs.Ytfhffldgjepeaaa
