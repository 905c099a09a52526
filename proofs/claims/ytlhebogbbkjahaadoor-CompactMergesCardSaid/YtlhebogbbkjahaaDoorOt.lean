/- A struct of three numbers that came in; guarded loads. -/
import Derived.Test.YtlhebogbbkjahaaDoorBx
namespace Go.Proofs.YtlhebogbbkjahaaDoor
open Go.RowKit Cop
set_option linter.unusedVariables false
theorem open_three' {H : Type} {enc : TypeId × Value → H} {P : Program} {w : World} {base : Nat} {spare : Nat → Bool} {held : Bool} {t t0 : TypeId} {v : Value} {d : DataW H} {ps : List MemPlace} {r : Reach} {base' : Nat} {f0 f1 f2 : Field} {k : IntKind}
    (ht : P.underlying t = some (.struct #[f0, f1, f2])) (e0 : f0.type = t0) (e1 : f1.type = t0) (e2 : f2.type = t0) (o0 : f0.offset = 0) (o1 : f1.offset = 1) (o2 : f2.offset = 2) (hi : P.underlying t0 = some (.int k)) (hc0 : P.cellsOf t0 = 1) (hc : P.cellsOf t = 3)
    (h : DataW.Trod enc P w base spare held t v d ps) (hok : Value.okWide P w r base' t v) : ∃ m n p : Int, v = .agg #[.int k m, .int k n, .int k p] ∧ (Lit.int k m).wf = true ∧ (Lit.int k n).wf = true ∧ (Lit.int k p).wf = true := by
  obtain ⟨cs, rfl, hsz⟩ := Go.WideShapes.okWide_struct ht hok
  obtain ⟨fuel, hf⟩ := h
  obtain ⟨xs, n, _, _, hl, hlen, hff⟩ := DataW.trod_struct ht hf
  obtain ⟨y0, y1, y2, rfl⟩ : ∃ y0 y1 y2, xs = [y0, y1, y2] := by
    match xs, hlen with
    | [y0, y1, y2], _ => exact ⟨_, _, _, rfl⟩
  have h0 := hff 0 f0 rfl
  have h1 := hff 1 f1 rfl
  have h2 := hff 2 f2 rfl
  simp only [List.getElem?_cons_zero, List.getElem?_cons_succ] at h0 h1 h2
  obtain ⟨l⟩ := cs
  rw [hc] at hsz
  match l, hsz with
  | [a, b, c], _ =>
    rw [e0, o0, hc0] at h0
    rw [e1, o1, hc0] at h1
    rw [e2, o2, hc0] at h2
    obtain ⟨m, hm, _, w0⟩ := DataW.trod_int hi h0
    obtain ⟨n, hn, _, w1⟩ := DataW.trod_int hi h1
    obtain ⟨p, hp, _, w2⟩ := DataW.trod_int hi h2
    simp [Value.cells] at hm hn hp
    exact ⟨m, n, p, by simp [hm, hn, hp], w0, w1, w2⟩
section
variable {P : Program} {w0 w : World} {B : Nat} {R : List Pc} {o : Oper} {a : Act}
/-- A guarded load of a row, where the guard says yes. -/
theorem wl_ldg {ops : Array Oper} {rest : List Oper} {Q : Exit → Act → World → Prop} (HS : Sep B w0 w R) (i : Nat) {g : Nat} {cs : Array Value} {t : TypeId} (hi : R[i]? = some (.row g cs t)) (ty : TypeId) (x : Operand) (hop : o.op = .load ty x) (hx : a.eval x = .pointer (some ⟨g, 0, none⟩)) {d : TypeDesc}
    (hu : P.underlying ty = some d) (hd : (match d with | .struct _ | .array _ _ => true | _ => false) = true) (hsz : (P.info? ty).map (·.size) = some cs.size) (hw : Region.wanted o (yielded ops a.tmps) = true)
    (h : wpList P ops Q rest (a.put o.dst (.agg cs)) w) : wpList P ops Q (o :: rest) a w := by
  refine BigFrame.wpList_want hw fun K hK => ow_val (.agg cs) w ?_ (hK _ _ h)
  have := load_row (P := P) (HS.row i hi) ty hu hd hsz
  simp only [execOp, hop, hx]
  simp [Result.andThen, this]
theorem ow_al {K : Act → World → Prop} {Q : Exit → Act → World → Prop} (HS : Sep B w0 w R) (ty : TypeId) (hop : o.op = .alloc ty) (cs : Array Value) (hz : (P.info? ty).map (·.zero) = some (some (.agg cs)))
    (h : ∀ g w1, Sep B w0 w1 (.row g cs ty :: R) → K (a.put o.dst (.pointer (some ⟨g, 0, none⟩))) w1) : o.wp P a w K Q := by
  obtain ⟨i, hi, hz⟩ := Option.map_eq_some_iff.1 hz
  have hzz : (zeroValue ty).run P w = .ok (.agg cs) w := by simp [zeroValue, typeInfo, hi, hz]
  refine ow_val (.pointer (some ⟨w.heap.size, 0, none⟩)) (w.alloc (.cells cs ty)) ?_ (h _ _ (HS.alloc cs ty))
  simp only [execOp, hop]
  simp [Instr.alloc, hzz, Result.andThen, newVar, newRow, Value.cells]
theorem Sep.ownNil (HS : Sep B w0 w R) (e : TypeId) (size : Nat) : Sep B w0 w (.own (.slice none 0 0) e size 0 [] :: R) :=
  HS.fresh (Below.refl _ _) (Ow.nil _ _ _ _ _) (fun k hk => by simp [Pc.blk, vblk] at hk)
theorem Sep.rdNil (HS : Sep B w0 w R) (size : Nat) : Sep B w0 w (.rd (.slice none 0 0) 0 size [] :: R) :=
  HS.fresh (Below.refl _ _) (Rd.nil w size) (fun k hk => by simp [Pc.blk, rblk] at hk)
theorem og_act {l : List Oper} {Q : Exit → Act → World → Prop} {S : World → Prop} {z : Nat} {k : Ord} {a a' : Act} (h : a = a') (h2 : Shut 0 (wpOrd P l.toArray Q S z k a' w)) : Shut 0 (wpOrd P l.toArray Q S z k a w) := by subst h; exact h2
end
end Go.Proofs.YtlhebogbbkjahaaDoor
