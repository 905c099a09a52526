/- Laws of bytes: append, make, copy. -/
import Derived.Test.YtfhffldgjepeaaaDoorGz
import Derived.Test.YtfhffldgjepeaaaDoorOw
namespace Go.Proofs.YtfhffldgjepeaaaDoor
open Go.RowKit Cop
set_option linter.unusedVariables false
set_option linter.unusedSimpArgs false
theorem info_u8 : (Tryd.prog.info? 5).map (fun i => (i.zero, i.size, i.bytes)) = some (some (.int .u8 0), 1, 1) := by kernel_rfl
theorem info_u8' : (Tryd.prog.info? 5).map (·.size) = some 1 := by kernel_rfl
theorem info_dg : (Tryd.prog.info? 51).map (·.size) = some 32 := by kernel_rfl
section
variable {w0 w : World} {B : Nat} {R : List Pc} {ops : Array Oper} {rest : List Oper} {o : Oper} {a : Act} {Q : Exit → Act → World → Prop} {K : Act → World → Prop}
/-- append of bytes. -/
theorem ow_apb (HS : Sep B w0 w R) (i : Nat) {v : Value} {n : Nat} {xs : List UInt8} (hi : R[i]? = some (.own v 5 1 n (bl xs))) {s x : Operand}
    (ho : o.op = .call { callee := .builtin .append, args := #[s, x], argTypes := #[41, 41] })
    {u : Value} {m : Nat} {cs : List UInt8} (HR : Rd w u m 1 (bl cs)) (hs : a.eval s = v) (hx : a.eval x = u) (k : Nat) (ys : List UInt8) (hk : n + m = k) (hy : xs ++ cs = ys) (hl : k ≤ 140737488355328)
    (h : ∀ v1 w1, Sep B w0 w1 (R.set i (.own v1 5 1 k (bl ys))) → Grew m v v1 k → K (a.put o.dst v1) w1) : o.wp Tryd.prog a w K Q :=
  ow_apn HS i hi s x 41 (.int .u8 0) 1 ho Tryd.underlying41 info_u8 rfl (by decide) (by decide) HR (bl_one _) hs hx k (bl ys) hk (by rw [← hy, bl_append]) (by omega) h
theorem wl_apb (HS : Sep B w0 w R) (i : Nat) {v : Value} {n : Nat} {xs : List UInt8} (hi : R[i]? = some (.own v 5 1 n (bl xs))) {s x : Operand} (hgd : o.guard = none)
    (ho : o.op = .call { callee := .builtin .append, args := #[s, x], argTypes := #[41, 41] })
    {u : Value} {m : Nat} {cs : List UInt8} (HR : Rd w u m 1 (bl cs)) (hs : a.eval s = v) (hx : a.eval x = u) (k : Nat) (ys : List UInt8) (hk : n + m = k) (hy : xs ++ cs = ys) (hl : k ≤ 140737488355328)
    (h : ∀ v1 w1, Sep B w0 w1 (R.set i (.own v1 5 1 k (bl ys))) → Grew m v v1 k → wpList Tryd.prog ops Q rest (a.put o.dst v1) w1) : wpList Tryd.prog ops Q (o :: rest) a w :=
  wpList_plain hgd fun _ hK => ow_apb HS i hi ho HR hs hx k ys hk hy hl fun v1 w1 h2 h3 => hK _ _ (h v1 w1 h2 h3)
/-- make([]byte, n): a row of noughts. -/
theorem wl_mkb (HS : Sep B w0 w R) (hgd : o.guard = none) {l c : Operand} (hop : o.op = Op.makeSlice 41 l c) {kl kc : IntKind} {L C : Int} (hl : a.eval l = .int kl L) (hc : a.eval c = .int kc C) (n : Nat) (hL : L = (n : Int)) (hC : C = (n : Int)) (hn : n ≤ 140737488355328)
    (h : ∀ g w1, Sep B w0 w1 (.row g (bv (List.replicate n 0)) 5 :: R) → wpList Tryd.prog ops Q rest (a.put o.dst (.slice (some ⟨g, 0, none⟩) n n)) w1) : wpList Tryd.prog ops Q (o :: rest) a w := by
  obtain ⟨i0, hi, hz0, hz1, hz2⟩ := info_parts info_u8
  subst hL hC
  have hrun := run_make (P := Tryd.prog) w 41 5 i0 (.int .u8 0) Tryd.underlying41 hi hz0 kl kc n n (by omega) (by omega) (by rw [hz2]; omega) (by omega)
  rw [hz1] at hrun
  have he : madeCells (Value.cells (.int .u8 0)) (n * 1) = bv (List.replicate n 0) := by
    rw [Nat.mul_one]
    apply Array.ext
    · simp [madeCells, bv]
    · intro i h1 h2; simp [madeCells, bv, Value.cells, Nat.mod_one]
  refine wpList_plain hgd fun K hK => ?_
  unfold Oper.wp
  simp only [execOp, hop, hl, hc, Sem.run_bind, hrun, Result.andThen, Sem.run_pure, Int.toNat_natCast]
  rw [he]
  exact hK _ _ (h _ _ (HS.alloc _ _))
/-- copy(d, u), d a whole row. -/
theorem wl_cpb (HS : Sep B w0 w R) (i : Nat) {g : Nat} {z : List UInt8} (hi : R[i]? = some (.row g (bv z) 5)) (hgd : o.guard = none) {d s : Operand} (ho : o.op = .call { callee := .builtin .copy, args := #[d, s], argTypes := #[41, 41] })
    {u : Value} {m n c : Nat} {cs : List UInt8} (HR : Rd w u m 1 (bl cs)) (hd : a.eval d = .slice (some ⟨g, 0, none⟩) n c) (hs : a.eval s = u) (hn : z.length = n) (hm : m ≤ n) (ys : List UInt8) (hy : cs ++ z.drop m = ys)
    (h : ∀ w1, Sep B w0 w1 (R.set i (.row g (bv ys) 5)) → wpList Tryd.prog ops Q rest (a.put o.dst (goInt m)) w1) : wpList Tryd.prog ops Q (o :: rest) a w := by
  obtain ⟨hl, A, c', rfl, hc, hcm, hA, hcell⟩ := HR
  have hcs : cs.length = m := by simpa [bl_length] using hl
  subst hy
  rcases Nat.eq_zero_or_pos m with h0 | h0
  · subst h0
    have : cs = [] := List.eq_nil_of_length_eq_zero hcs
    subst this
    refine wpList_copy_nothing hgd d s 41 41 ho 5 Tryd.underlying41 info_u8' _ _ _ _ _ _ hd hs (by simp) ?_
    have := h w (by
      have e : R.set i (.row g (bv ([] ++ z.drop 0)) 5) = R := by
        rw [List.nil_append, List.drop_zero]
        exact List.set_getElem?_self' hi
      rw [e]; exact HS)
    exact this
  · obtain ⟨b, o', rfl, hcc⟩ := hcell h0
    refine wpList_copy_own hgd d s 41 41 ho 5 Tryd.underlying41 info_u8' g 0 n c ⟨b, o', none⟩ m c' hd hs (bv z) 5 (HS.row i hi) (bl cs) (by rw [bl_length, hcs]; exact (Nat.min_eq_left hm).symm) (fun j v hv => by rw [add_plain]; exact hcc j v hv) (by rw [bl_length, bv_size]; omega) (bl_one _) ?_
    have := h _ (HS.setRow i hi (bv (cs ++ z.drop m)))
    rw [bl_length, hcs]
    have e : ((bv z).toList.take 0 ++ (bl cs ++ (bv z).toList.drop (0 + m))).toArray = bv (cs ++ z.drop m) := by
      rw [List.take_zero, List.nil_append, bv_toList, Nat.zero_add, ← bl_drop, ← bl_append]
      rw [← bv_toList]
    rw [e]
    exact this
end
theorem dgS {l : List UInt8} (h : l.length = 32) : (Tryd.prog.info? 51).map (·.size) = some (bv l).size := by rw [bv_size, h]; exact info_dg
theorem dgE {l m : List UInt8} (h : l.length = 32) (h2 : m.length = 32) : (bv l).size = (bv m).size := by rw [bv_size, bv_size, h, h2]
theorem dgT {l : List UInt8} (h : l.length = 32) : (bv l).toList = (bl l).take 32 := by rw [bv_toList, List.take_of_length_le (by rw [bl_length, h]; exact Nat.le_refl _)]
end Go.Proofs.YtfhffldgjepeaaaDoor
