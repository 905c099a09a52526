/- Boxed parameters; slice literals. -/
import Derived.Test.YtlhebogbbkjahaaDoorTc
import Derived.Great.BuildSlice
namespace Go.Proofs.YtlhebogbbkjahaaDoor
open Go.RowKit Cop
set_option linter.unusedVariables false
section
variable {P : Program} {w0 w : World} {B : Nat} {R : List Pc} {o : Oper} {a : Act}
/-- A parameter that is boxed. -/
theorem wl_bx {ops : Array Oper} {rest : List Oper} {Q : Exit → Act → World → Prop} (HS : Sep B w0 w R) (hgd : o.guard = none) (ty : TypeId) (x : Operand) (hop : o.op = .box ty x) (cs : Array Value) (hx : a.eval x = .agg cs)
    (h : ∀ g w1, Sep B w0 w1 (.row g cs ty :: R) → wpList P ops Q rest (a.put o.dst (.pointer (some ⟨g, 0, none⟩))) w1) : wpList P ops Q (o :: rest) a w := by
  refine wpList_plain hgd fun K hK => ?_
  refine ow_val (.pointer (some ⟨w.heap.size, 0, none⟩)) (w.alloc (.cells cs ty)) ?_ (hK _ _ (h _ _ (HS.alloc cs ty)))
  simp only [execOp, hop, hx]
  simp [Instr.box, Result.andThen, newVar, newRow, Value.cells]
/-- A slice literal. -/
theorem ow_bs {K : Act → World → Prop} {Q : Exit → Act → World → Prop} (HS : Sep B w0 w R) (t e : TypeId) (len size : Nat) (parts : Array (Nat × Operand)) (ho : o.op = .buildSlice t len parts) (xs : List Value) (z : Value)
    (hu : P.underlying t = some (.slice e)) (hie : (P.info? e).map (fun i => (i.zero, i.size)) = some (some z, size)) (hpos : 0 < len * size) (hsmall : len * size ≤ 1024)
    (hf : Instr.fill (fun i => some (i * size, size)) ((Array.range (len * size)).map (z.cells[· % z.cells.size]!)) (parts.map fun (i, x) => (i, a.eval x)).toList = some xs.toArray) (hxs : xs.length = len * size)
    (h : ∀ g w1, Sep B w0 w1 (.own (.slice (some ⟨g, 0, none⟩) len len) e size len xs :: R) → K (a.put o.dst (.slice (some ⟨g, 0, none⟩) len len)) w1) : o.wp P a w K Q := by
  obtain ⟨ie, hi, hz⟩ := Option.map_eq_some_iff.1 hie
  simp only [Prod.mk.injEq] at hz
  obtain ⟨hz, rfl⟩ := hz
  have hlen : len ≤ 1024 := by
    rcases Nat.eq_zero_or_pos ie.size with h0 | h0
    · rw [h0] at hpos; simp at hpos
    · exact Nat.le_trans (Nat.le_mul_of_pos_right len h0) hsmall
  refine wp_buildSlice t e len parts ho xs.toArray ie z hu hi hz (by omega) (by omega) hf (h _ _ ?_)
  have := HS.built xs.toArray e len ie.size (by simpa using hxs) (by omega)
  simpa using this
theorem wl_bs {ops : Array Oper} {rest : List Oper} {Q : Exit → Act → World → Prop} (HS : Sep B w0 w R) (hgd : o.guard = none) (t e : TypeId) (len size : Nat) (parts : Array (Nat × Operand)) (ho : o.op = .buildSlice t len parts) (xs : List Value) (z : Value)
    (hu : P.underlying t = some (.slice e)) (hie : (P.info? e).map (fun i => (i.zero, i.size)) = some (some z, size)) (hpos : 0 < len * size) (hsmall : len * size ≤ 1024)
    (hf : Instr.fill (fun i => some (i * size, size)) ((Array.range (len * size)).map (z.cells[· % z.cells.size]!)) (parts.map fun (i, x) => (i, a.eval x)).toList = some xs.toArray) (hxs : xs.length = len * size)
    (h : ∀ g w1, Sep B w0 w1 (.own (.slice (some ⟨g, 0, none⟩) len len) e size len xs :: R) → wpList P ops Q rest (a.put o.dst (.slice (some ⟨g, 0, none⟩) len len)) w1) : wpList P ops Q (o :: rest) a w :=
  wpList_plain hgd fun _ hK => ow_bs HS t e len size parts ho xs z hu hie hpos hsmall hf hxs fun g w1 h2 => hK _ _ (h g w1 h2)
/-- A row's store. -/
theorem ow_st {K : Act → World → Prop} {Q : Exit → Act → World → Prop} (HS : Sep B w0 w R) (i : Nat) {g : Nat} {old cs : Array Value} {t : TypeId} (hi : R[i]? = some (.row g old t)) (ty : TypeId) (ad x : Operand) (hop : o.op = .store ty ad x) (had : a.eval ad = .pointer (some ⟨g, 0, none⟩)) (hx : a.eval x = .agg cs)
    (hsz : (P.info? ty).map (·.size) = some cs.size) (hn : old.size = cs.size) (h1 : cs.all (·.oneCell') = true)
    (h : ∀ w1, Sep B w0 w1 (R.set i (.row g cs t)) → K (a.put o.dst undef) w1) : o.wp P a w K Q :=
  ow_stm HS i hi ty ad x hop 0 hsz (by omega) had hx h1 cs (by rw [List.take_zero, List.nil_append, Nat.zero_add, List.drop_of_length_le (by simp [hn]), List.append_nil]) h
theorem zlit : (#[.int .u8 0, .int .u8 0, .int .u8 0, .int .u8 0, .int .u8 0, .int .u8 0, .int .u8 0, .int .u8 0, .int .u8 0, .int .u8 0, .int .u8 0, .int .u8 0, .int .u8 0, .int .u8 0, .int .u8 0, .int .u8 0, .int .u8 0, .int .u8 0, .int .u8 0, .int .u8 0, .int .u8 0, .int .u8 0, .int .u8 0, .int .u8 0, .int .u8 0, .int .u8 0, .int .u8 0, .int .u8 0, .int .u8 0, .int .u8 0, .int .u8 0, .int .u8 0] : Array Value) = bv (List.replicate 32 0) := rfl
/-- A row of bytes is read as a slice. -/
theorem Sep.rdRow (HS : Sep B w0 w R) (i : Nat) {g : Nat} {l : List UInt8} {t : TypeId} (hi : R[i]? = some (.row g (bv l) t)) (n : Nat) (hn : l.length = n) (hm : n ≤ 9223372036854775807) : Rd w (.slice (some ⟨g, 0, none⟩) n n) n 1 (bl l) := by
  have h := rd_row (n := n) (size := 1) (HS.row i hi) (by rw [bv_size, hn, Nat.mul_one]) hm
  rwa [bv_toList] at h
end
end Go.Proofs.YtlhebogbbkjahaaDoor
