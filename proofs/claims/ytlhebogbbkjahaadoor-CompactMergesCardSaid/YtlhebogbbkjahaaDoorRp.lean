/- What a walk of a tree's root by peaks needs of the peaks; in plain Lean. -/
import Derived.Test.YtlhebogbbkjahaaDoorPt
namespace Cop
open Go
set_option linter.unusedVariables false
section
variable (nd : List UInt8 → List UInt8 → List UInt8) (em : List UInt8)
def wt : List (Nat × List UInt8) → Nat
  | [] => 0
  | p :: s => wt s + p.1
theorem peaks_succ (l : List (List UInt8)) (k : Nat) (hk : k < l.length) : peaks nd (l.take (k + 1)) = pushPk nd (peaks nd (l.take k)) (1, l.getD k []) := by
  unfold peaks
  rw [List.take_succ_eq_append_getElem hk, List.foldl_append]
  simp [List.getD, hk]
theorem wt_push : ∀ (s : List (Nat × List UInt8)) (p : Nat × List UInt8), wt (pushPk nd s p) = wt s + p.1
  | [], p => by simp [pushPk, wt]
  | q :: s, p => by
    unfold pushPk
    split
    · rename_i h
      rw [wt_push s _]
      simp only [wt]
      omega
    · simp only [wt]
theorem push_len : ∀ (s : List (Nat × List UInt8)) (p : Nat × List UInt8), 0 < (pushPk nd s p).length
  | [], p => by simp [pushPk]
  | q :: s, p => by
    unfold pushPk
    split
    · exact push_len s _
    · simp
theorem rep_len {s : List (Nat × List UInt8)} {l : List (List UInt8)} (h : Rep nd em s l) : ∀ j, (∀ x ∈ s, ∃ i, j ≤ i ∧ x.1 = 2 ^ i) → 2 ^ j * 2 ^ s.length ≤ l.length + 2 ^ j := by
  induction h with
  | nil => intro j _; simp
  | @cons s l seg i hr hl hi ih =>
    intro j hj
    obtain ⟨i', h1, h2⟩ := hj _ List.mem_cons_self
    have hii : i = i' := pow_inj h2
    subst hii
    have h3 := ih (i + 1) (fun x hx => by obtain ⟨q, h4, h5⟩ := hi x hx; exact ⟨q, h4, h5⟩)
    rw [List.length_append, hl, List.length_cons, Nat.pow_succ]
    rw [Nat.pow_succ] at h3
    have h6 : 2 ^ j ≤ 2 ^ i := Nat.pow_le_pow_right (by decide) h1
    have h7 : 2 ^ i * 2 * 2 ^ s.length = 2 ^ i * (2 ^ s.length * 2) := by rw [Nat.mul_assoc, Nat.mul_comm 2]
    rw [h7] at h3
    have h8 : 1 ≤ 2 ^ s.length := Nat.pow_pos (by decide)
    generalize 2 ^ i = a at *
    generalize 2 ^ j = b at *
    generalize 2 ^ s.length = c at *
    -- b * (c * 2) ≤ l + a + b, from a * (c * 2) ≤ l + a * 2, b ≤ a
    obtain ⟨d, rfl⟩ : ∃ d, a = b + d := ⟨a - b, by omega⟩
    have h9 : (b + d) * (c * 2) = b * (c * 2) + d * (c * 2) := Nat.add_mul _ _ _
    have h10 : d * 2 ≤ d * (c * 2) := Nat.mul_le_mul_left d (by omega)
    omega
theorem peaks_len (l : List (List UInt8)) (h : l.length ≤ 4398046511104) : (peaks nd l).length ≤ 64 := by
  have h1 := rep_len nd [] (rep_peaks nd [] l) 0 (rep_pow nd [] (rep_peaks nd [] l))
  rw [Nat.pow_zero, Nat.one_mul] at h1
  rcases Nat.lt_or_ge 64 (peaks nd l).length with h2 | h2
  · have : 2 ^ 64 ≤ 2 ^ (peaks nd l).length := Nat.pow_le_pow_right (by decide) (by omega)
    omega
  · exact h2
theorem wt_peaks (l : List (List UInt8)) : wt (peaks nd l) = l.length := by
  unfold peaks
  have : ∀ (l : List (List UInt8)) (s : List (Nat × List UInt8)), wt (l.foldl (fun s d => pushPk nd s (1, d)) s) = wt s + l.length := by
    intro l
    induction l with
    | nil => intro s; rfl
    | cons d l ih => intro s; rw [List.foldl_cons, ih, wt_push, List.length_cons]; simp only; omega
  rw [this]; simp [wt]
end
end Cop
namespace Go.Proofs.YtlhebogbbkjahaaDoor
open Go.RowKit Cop
section
variable (nd : List UInt8 → List UInt8 → List UInt8) (hnd : ∀ a b, (nd a b).length = 32)
include hnd
theorem allP_push : ∀ (s : List (Nat × List UInt8)) (p : Nat × List UInt8), AllP s → p.2.length = 32 → AllP (pushPk nd s p)
  | [], p, _, h2 => by intro x hx; simp [pushPk] at hx; subst hx; exact h2
  | q :: s, p, h1, h2 => by
    unfold pushPk
    split
    · exact allP_push s _ h1.tail (hnd _ _)
    · intro x hx
      rcases List.mem_cons.1 hx with rfl | hx
      · exact h2
      · exact h1 x hx
theorem allP_peaks (l : List (List UInt8)) (h : AllD l) : AllP (peaks nd l) := by
  unfold peaks
  have : ∀ (l : List (List UInt8)) (s : List (Nat × List UInt8)), AllD l → AllP s → AllP (l.foldl (fun s d => pushPk nd s (1, d)) s) := by
    intro l
    induction l with
    | nil => intro s _ h; exact h
    | cons d l ih => intro s h1 h2; exact ih _ (fun x hx => h1 x (List.mem_cons_of_mem _ hx)) (allP_push nd hnd s (1, d) h2 (h1 d List.mem_cons_self))
  exact this l [] h (by intro x hx; cases hx)
theorem foldl_len (s : List (Nat × List UInt8)) (d : List UInt8) (hd : d.length = 32) : (s.foldl (fun acc q => nd q.2 acc) d).length = 32 := by
  induction s generalizing d with
  | nil => exact hd
  | cons q s ih => exact ih _ (hnd _ _)
end
section
variable {P : Program} {w : World} {o : Oper} {a : Act}
theorem exec_bd {ρ : Operand → Value} (t : TypeId) (parts : Array (Nat × Operand)) (hop : o.op = .build t parts) (vs : Array (Nat × Value)) (hvs : (parts.map fun (i, x) => (i, ρ x)) = vs) (v : Value) (hr : (Instr.build t vs).run P w = .ok v w) : (execOp ρ o).run P w = .ok (.value v) w := by
  simp only [execOp, hop, hvs, Sem.run_bind, hr, Result.andThen_ok, Sem.run_pure]
theorem wl_bd {ops : Array Oper} {rest : List Oper} {Q : Exit → Act → World → Prop} (hgd : o.guard = none) (t : TypeId) (parts : Array (Nat × Operand)) (hop : o.op = .build t parts) (vs : Array (Nat × Value)) (hvs : (parts.map fun (i, x) => (i, a.eval x)) = vs) (v : Value) (hr : (Instr.build t vs).run P w = .ok v w)
    (h : wpList P ops Q rest (a.put o.dst v) w) : wpList P ops Q (o :: rest) a w := by
  refine wl_val hgd v ?_ h
  simp only [execOp, hop, hvs, Sem.run_bind, hr, Result.andThen_ok, Sem.run_pure]
/-- x[:m] of a slice, m at most its capacity. -/
theorem run_upto {t e : TypeId} {size : Nat} (g n c m : Nat) (hm : m ≤ c) (ht : P.underlying t = some (.slice e)) (hs : (P.info? e).map (·.size) = some size) (W : World) (kk : IntKind) :
    (Instr.sliceAt t (.slice (some ⟨g, 0, none⟩) n c) none (some (.int kk (m : Int))) none).run P W = .ok (.slice (some ⟨g, 0, none⟩) m c) W := by
  have hsz := fun W => run_sizeOf_gen (P := P) W hs
  unfold Instr.sliceAt
  rw [Sem.run_bind, run_underlying ht]
  simp only [Result.andThen]
  unfold Instr.slice
  rw [Sem.run_bind, run_underlying ht]
  have hm2 : (m : Int) ≤ (c : Int) := by omega
  simp [Result.andThen, Instr.sliceBounds, Instr.sliceBound, asIntOf, hsz, add_plain, hm]
theorem wl_sl1 {ops : Array Oper} {rest : List Oper} {Q : Exit → Act → World → Prop} (hgd : o.guard = none) (ty : TypeId) (x hi : Operand) (hop : o.op = .slice ty x none (some hi) none) (p : Value) (hx : a.eval x = p) (vh : Value) (hhi : a.eval hi = vh) (v : Value) (hl : (Instr.sliceAt ty p none (some vh) none).run P w = .ok v w) (h : wpList P ops Q rest (a.put o.dst v) w) : wpList P ops Q (o :: rest) a w := by
  refine wl_val hgd v ?_ h
  simp only [execOp, hop, hx, hhi, Option.map_none, Option.map_some, Sem.run_bind, hl, Result.andThen_ok, Sem.run_pure]
theorem wl_bs1 {w0 : World} {B : Nat} {R : List Pc} {ops : Array Oper} {rest : List Oper} {Q : Exit → Act → World → Prop} (HS : Sep B w0 w R) (hgd : o.guard = none) (t e : TypeId) (size : Nat) (x : Operand) (ho : o.op = .buildSlice t 1 #[(0, x)]) (u : Value) (hx : a.eval x = u) (xs : List Value) (z : Value)
    (hu : P.underlying t = some (.slice e)) (hie : (P.info? e).map (fun i => (i.zero, i.size)) = some (some z, size)) (hpos : 0 < 1 * size) (hsmall : 1 * size ≤ 1024)
    (hf : Instr.fill (fun i => some (i * size, size)) ((Array.range (1 * size)).map (z.cells[· % z.cells.size]!)) [(0, u)] = some xs.toArray) (hxs : xs.length = 1 * size)
    (h : ∀ g w1, Sep B w0 w1 (.own (.slice (some ⟨g, 0, none⟩) 1 1) e size 1 xs :: R) → wpList P ops Q rest (a.put o.dst (.slice (some ⟨g, 0, none⟩) 1 1)) w1) : wpList P ops Q (o :: rest) a w :=
  wl_bs HS hgd t e 1 size _ ho xs z hu hie hpos hsmall (by simpa [hx] using hf) hxs h
theorem wl_alx {ops : Array Oper} {rest : List Oper} {Q : Exit → Act → World → Prop} (hgd : o.guard = none) (ty : TypeId) (hop : o.op = .alloc ty) (cs : Array Value) (hz : (P.info? ty).map (·.zero) = some (some (.agg cs))) (h : wpList P ops Q rest (a.put o.dst (.pointer (some ⟨w.heap.size, 0, none⟩))) (w.alloc (.cells cs ty))) : wpList P ops Q (o :: rest) a w := by
  refine wpList_plain hgd fun K hK => ?_
  obtain ⟨i, hi, hz⟩ := Option.map_eq_some_iff.1 hz
  exact ow_alloc ty hop cs (by simp [zeroValue, typeInfo, hi, hz]) (hK _ _ h)
theorem rf_intro {P : Program} {c : Code} {Q : Exit → Act → World → Prop} {a : Act} {w : World} (h : ∀ a0, a0 = a → c.wp P Q a0 w) : c.wp P Q a w := h a rfl
end
set_option maxRecDepth 100000 in
theorem fill_part (n : Nat) {d : List UInt8} (h : d.length = 32) : Instr.fill (fun i => some (i * 33, 33)) ((Array.range (1 * 33)).map ((Value.agg (ptv 0 (List.replicate 32 0))).cells[· % (Value.agg (ptv 0 (List.replicate 32 0))).cells.size]!)) [(0, Value.agg (ptv n d))] = some (ptv n d).toList.toArray := by
  obtain ⟨a0, a1, a2, a3, a4, a5, a6, a7, b0, b1, b2, b3, b4, b5, b6, b7, c0, c1, c2, c3, c4, c5, c6, c7, d0, d1, d2, d3, d4, d5, d6, d7, rfl⟩ := len32 h
  kernel_rfl
end Go.Proofs.YtlhebogbbkjahaaDoor
