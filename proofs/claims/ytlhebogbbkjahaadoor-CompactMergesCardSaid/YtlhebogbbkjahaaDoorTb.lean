import Derived.Test.YtlhebogbbkjahaaDoorTa
namespace Go.Proofs.YtlhebogbbkjahaaDoor
open Go.RowKit Cop
set_option linter.unusedVariables false
set_option linter.unusedSimpArgs false
section
variable {w0 w : World} {B : Nat} {R : List Pc} {ops : Array Oper} {rest : List Oper} {o : Oper} {a : Act} {Q : Exit → Act → World → Prop} {K : Act → World → Prop}
/-- append of bytes. -/
theorem ow_apb (HS : Sep B w0 w R) (i : Nat) {v : Value} {n : Nat} {xs : List UInt8} (hi : R[i]? = some (.own v 5 1 n (bl xs))) {s x : Operand}
    (ho : o.op = .call { callee := .builtin .append, args := #[s, x], argTypes := #[65, 65] })
    {u : Value} {m : Nat} {cs : List UInt8} (HR : Rd w u m 1 (bl cs)) (hs : a.eval s = v) (hx : a.eval x = u) (k : Nat) (ys : List UInt8) (hk : n + m = k) (hy : xs ++ cs = ys) (hl : k ≤ 140737488355328)
    (h : ∀ v1 w1, Sep B w0 w1 (R.set i (.own v1 5 1 k (bl ys))) → Grew m v v1 k → K (a.put o.dst v1) w1) : o.wp Tryd.prog a w K Q :=
  ow_apn HS i hi s x 65 (.int .u8 0) 1 ho Tryd.underlying65 info_u8 rfl (by decide) (by decide) HR (bl_one _) hs hx k (bl ys) hk (by rw [← hy, bl_append]) (by omega) h
theorem wl_apb (HS : Sep B w0 w R) (i : Nat) {v : Value} {n : Nat} {xs : List UInt8} (hi : R[i]? = some (.own v 5 1 n (bl xs))) {s x : Operand} (hgd : o.guard = none)
    (ho : o.op = .call { callee := .builtin .append, args := #[s, x], argTypes := #[65, 65] })
    {u : Value} {m : Nat} {cs : List UInt8} (HR : Rd w u m 1 (bl cs)) (hs : a.eval s = v) (hx : a.eval x = u) (k : Nat) (ys : List UInt8) (hk : n + m = k) (hy : xs ++ cs = ys) (hl : k ≤ 140737488355328)
    (h : ∀ v1 w1, Sep B w0 w1 (R.set i (.own v1 5 1 k (bl ys))) → Grew m v v1 k → wpList Tryd.prog ops Q rest (a.put o.dst v1) w1) : wpList Tryd.prog ops Q (o :: rest) a w :=
  wpList_plain hgd fun _ hK => ow_apb HS i hi ho HR hs hx k ys hk hy hl fun v1 w1 h2 h3 => hK _ _ (h v1 w1 h2 h3)
/-- make([]byte, n): a row of noughts. -/
theorem wl_mkb (HS : Sep B w0 w R) (hgd : o.guard = none) {l c : Operand} (hop : o.op = Op.makeSlice 65 l c) {kl kc : IntKind} {L C : Int} (hl : a.eval l = .int kl L) (hc : a.eval c = .int kc C) (n : Nat) (hL : L = (n : Int)) (hC : C = (n : Int)) (hn : n ≤ 140737488355328)
    (h : ∀ g w1, Sep B w0 w1 (.row g (bv (List.replicate n 0)) 5 :: R) → wpList Tryd.prog ops Q rest (a.put o.dst (.slice (some ⟨g, 0, none⟩) n n)) w1) : wpList Tryd.prog ops Q (o :: rest) a w := by
  obtain ⟨i0, hi, hz0, hz1, hz2⟩ := info_parts info_u8
  subst hL hC
  have hrun := run_make (P := Tryd.prog) w 65 5 i0 (.int .u8 0) Tryd.underlying65 hi hz0 kl kc n n (by omega) (by omega) (by rw [hz2]; omega) (by omega)
  rw [hz1] at hrun
  have he : madeCells (Value.cells (.int .u8 0)) (n * 1) = bv (List.replicate n 0) := by
    rw [Nat.mul_one]
    apply Array.ext
    · simp [madeCells, bv]
    · intro i h1 h2; simp [madeCells, bv, Value.cells, Nat.mod_one]
  refine wpList_plain hgd fun K hK => ?_
  unfold Oper.wp
  simp only [execOp, hop, hl, hc, Sem.run_bind, hrun, Result.andThen, Sem.run_pure, Int.toNat_natCast]
  rw [he]
  exact hK _ _ (h _ _ (HS.alloc _ _))
/-- copy(d, u), d a whole row. -/
theorem wl_cpb (HS : Sep B w0 w R) (i : Nat) {g : Nat} {z : List UInt8} (hi : R[i]? = some (.row g (bv z) 5)) (hgd : o.guard = none) {d s : Operand} (ho : o.op = .call { callee := .builtin .copy, args := #[d, s], argTypes := #[65, 65] })
    {u : Value} {m n c : Nat} {cs : List UInt8} (HR : Rd w u m 1 (bl cs)) (hd : a.eval d = .slice (some ⟨g, 0, none⟩) n c) (hs : a.eval s = u) (hn : z.length = n) (hm : m ≤ n) (ys : List UInt8) (hy : cs ++ z.drop m = ys)
    (h : ∀ w1, Sep B w0 w1 (R.set i (.row g (bv ys) 5)) → wpList Tryd.prog ops Q rest (a.put o.dst (goInt m)) w1) : wpList Tryd.prog ops Q (o :: rest) a w := by
  obtain ⟨hl, A, c', rfl, hc, hcm, hA, hcell⟩ := HR
  have hcs : cs.length = m := by simpa [bl_length] using hl
  subst hy
  rcases Nat.eq_zero_or_pos m with h0 | h0
  · subst h0
    have : cs = [] := List.eq_nil_of_length_eq_zero hcs
    subst this
    refine wpList_copy_nothing hgd d s 65 65 ho 5 Tryd.underlying65 info_u8' _ _ _ _ _ _ hd hs (by simp) ?_
    have := h w (by
      have e : R.set i (.row g (bv ([] ++ z.drop 0)) 5) = R := by
        rw [List.nil_append, List.drop_zero]
        exact List.set_getElem?_self' hi
      rw [e]; exact HS)
    exact this
  · obtain ⟨b, o', rfl, hcc⟩ := hcell h0
    refine wpList_copy_own hgd d s 65 65 ho 5 Tryd.underlying65 info_u8' g 0 n c ⟨b, o', none⟩ m c' hd hs (bv z) 5 (HS.row i hi) (bl cs) (by rw [bl_length, hcs]; exact (Nat.min_eq_left hm).symm) (fun j v hv => by rw [add_plain]; exact hcc j v hv) (by rw [bl_length, bv_size]; omega) (bl_one _) ?_
    have := h _ (HS.setRow i hi (bv (cs ++ z.drop m)))
    rw [bl_length, hcs]
    have e : ((bv z).toList.take 0 ++ (bl cs ++ (bv z).toList.drop (0 + m))).toArray = bv (cs ++ z.drop m) := by
      rw [List.take_zero, List.nil_append, bv_toList, Nat.zero_add, ← bl_drop, ← bl_append]
      rw [← bv_toList]
    rw [e]
    exact this
end
theorem stv_one (m : Bool) (h : H8) (n : Int) (v : Value) (hv : v.oneCell' = true) : (stv m h n v).all (·.oneCell') = true := by
  rw [Array.all_eq_true_iff_forall_mem]; intro u hu; simp [stv] at hu; rcases hu with rfl | rfl | rfl | rfl | rfl | rfl | rfl | rfl | rfl | rfl | rfl <;> first | rfl | exact hv
theorem none_S {B : Nat} {w0 w : World} {R : List Pc} (HS : Sep B w0 w R) (i : Nat) {g : Nat} {m : Bool} {h : H8} {n : Int} {v : Value} (hi : R[i]? = some (.row g (stv m h n v) 166)) :
    Calls Tryd.prog 87 #[.pointer (some ⟨g, 0, none⟩)] w fun e w' => e = .returned (.bool (!m)) ∧ w' = w := none_st m g w (by rw [row_cell (HS.row i hi)]; rfl)
theorem cell_n {B : Nat} {w0 w : World} {R : List Pc} (HS : Sep B w0 w R) (i : Nat) {g : Nat} {m : Bool} {h : H8} {n : Int} {v : Value} (hi : R[i]? = some (.row g (stv m h n v) 166)) : w.cell? ⟨g, 9, none⟩ = some (.int .i64 n) := by rw [row_cell (HS.row i hi)]; rfl
theorem cell_r {B : Nat} {w0 w : World} {R : List Pc} (HS : Sep B w0 w R) (i : Nat) {g : Nat} {m : Bool} {h : H8} {n : Int} {v : Value} (hi : R[i]? = some (.row g (stv m h n v) 166)) : w.cell? ⟨g, 10, none⟩ = some v := by rw [row_cell (HS.row i hi)]; rfl
set_option maxHeartbeats 4000000 in
theorem write_a (B : Nat) (w0 : World) (g : Nat) (n : Nat) (v vb : Value) (h : H8) (r l : List UInt8) (R : List Pc) (w : World) (hTB : TabB B w0) (hr : r.length < 64) (hl : l.length ≤ 1000000000000000000) (hn : n + l.length ≤ 2305843009213693951)
    (HS : Sep B w0 w (.row g (stv true h n v) 166 :: .own v 5 1 r.length (bl r) :: .rd vb l.length 1 (bl l) :: R)) :
    Calls Tryd.prog 77 #[.pointer (some ⟨g, 0, none⟩), vb] w fun e w' => e = .returned (.int .i64 0) ∧ StA B w0 g true ((n + l.length : Nat) : Int) vb l R (over h (r ++ l)) (tl (r ++ l)) w' := by
  have HN := Lib.hid (none_S HS 0 rfl)
  have c9 := cell_n HS 0 rfl
  have HTK := Lib.hid (take_a B w0 g true n v vb h r l R w hTB hr hl HS)
  obtain ⟨Ab, cb, rfl, hcb, hcb2⟩ := (HS.rd 2 rfl).shape
  generalize over h (r ++ l) = h2 at *
  generalize tl (r ++ l) = r2 at *
  go_enter Tryd.func77, Tryd.ntmps77
  go_wp2_with fail
  refine HN.out.mono ?_
  rintro e w2 ⟨rfl, rfl⟩
  go_wp2_with fail
  refine HTK.out.mono ?_
  rintro e w3 ⟨rfl, v3, HS3⟩
  have d9 := cell_n HS3 0 rfl
  clear HN c9 HTK
  go_wp2_with (refine wl_stc HS3 0 rfl rfl 3 _ _ rfl (by kernel_rfl) 9 (by (show 9 < 11); decide) rfl rfl rfl rfl ?_)
  intro w4 HS4
  go_wp2
  go_ret
  exact ⟨rfl, v3, HS4⟩
theorem write_big (B : Nat) (w0 : World) (g : Nat) (n : Nat) (v vb : Value) (h : H8) (l : List UInt8) (R : List Pc) (w : World) (hl : l.length ≤ 1000000000000000000) (hn0 : n ≤ 2305843009213693951) (hn : 2305843009213693951 < n + l.length)
    (i j : Nat) (hi : R[i]? = some (.row g (stv true h n v) 166)) (hj : R[j]? = some (.rd vb l.length 1 (bl l))) (HS : Sep B w0 w R) :
    Calls Tryd.prog 77 #[.pointer (some ⟨g, 0, none⟩), vb] w fun e w' => e = .returned (.int .i64 3) ∧ w' = w := by
  have HN := Lib.hid (none_S HS i hi)
  have c9 := cell_n HS i hi
  obtain ⟨Ab, cb, rfl, hcb, hcb2⟩ := (HS.rd j hj).shape
  clear HS hj hi
  go_enter Tryd.func77, Tryd.ntmps77
  go_wp2_with fail
  refine HN.out.mono ?_
  rintro e w2 ⟨rfl, rfl⟩
  go_wp2
  go_ret
  exact ⟨rfl, rfl⟩
/-- slices.Clone of bytes. -/
theorem clone_bytes (v : Value) (l : List UInt8) (w : World) (hR : Rd w v l.length 1 (bl l)) (hl : l.length ≤ 140737488355000) :
    Calls Tryd.prog 82 #[v] w fun e w' => ∃ x, e = .returned x ∧ Below w.heap.size w w' ∧ Ow w' w.heap.size 5 1 x l.length (bl l) := by
  obtain ⟨A, c, rfl, hc, hcm⟩ := hR.shape
  cases A with
  | none =>
    obtain ⟨_, A', c', he, h1, _, h2, _⟩ := hR
    injection he with e1 e2 e3
    subst e1 e3
    have hc0 := h2 rfl
    have hl0 : l.length = 0 := by omega
    have : l = [] := List.eq_nil_of_length_eq_zero hl0
    subst this
    subst hc0
    clear h1 h2 hcm hc hl
    have heq := fun w => Lib.run_eql_slice_nil (P := Tryd.prog) (w := w)
    go_enter Tryd.func82, Tryd.ntmps82
    go_wp2
    go_ret
    exact ⟨_, rfl, Below.refl _ _, Ow.nil _ _ _ _ _⟩
  | some a =>
    have HR := Lib.hid hR
    have HS0 := ((Sep.start w).arg0 hR).built #[] 5 0 1 rfl (by decide)
    clear hR
    have heq := fun w => Lib.run_eql_slice_nil (P := Tryd.prog) (w := w)
    go_enter Tryd.func82, Tryd.ntmps82
    go_wp2_with (refine wl_app HS0 0 rfl _ _ 65 (.int .u8 0) 1 rfl rfl Tryd.underlying65 info_u8 rfl (by decide) (by decide) (HS0.rd 1 rfl) (bl_one _) rfl rfl (by omega) ?_)
    intro v1 w1 HS1 _ _
    go_wp2
    go_ret
    refine ⟨_, rfl, HS1.hb, ?_⟩
    have := HS1.own 0 rfl
    simpa using this
/-- A state's copy. -/
theorem clone_a (B : Nat) (w0 : World) (g : Nat) (n : Nat) (v : Value) (h : H8) (r : List UInt8) (R : List Pc) (w : World) (hr : r.length < 64) (i j : Nat)
    (hi : R[i]? = some (.row g (stv true h n v) 166)) (hj : R[j]? = some (.own v 5 1 r.length (bl r))) (HS : Sep B w0 w R) :
    Calls Tryd.prog 89 #[.pointer (some ⟨g, 0, none⟩)] w fun e w' => ∃ g' v', e = .returned (.pointer (some ⟨g', 0, none⟩)) ∧ Sep B w0 w' (.row g' (stv true h n v') 166 :: .own v' 5 1 r.length (bl r) :: R) := by
  have HN := Lib.hid (none_S HS i hi)
  obtain ⟨A, c, rfl, hc⟩ := (HS.own j hj).sl
  have hst : (Tryd.prog.info? 166).map (·.size) = some (stv true h n (.slice A r.length c)).size := by kernel_rfl
  go_enter Tryd.func89, Tryd.ntmps89
  go_wp2_with fail
  refine HN.out.mono ?_
  rintro e w2 ⟨rfl, rfl⟩
  have hi' := Lib.hid hi
  have hj' := Lib.hid hj
  clear hi hj HN
  go_wp2_with (first | refine wl_ld HS i hi'.out rfl 166 _ rfl rfl Tryd.underlying166 rfl hst ?_ | refine wl_al HS rfl 166 rfl (stv false ⟨0, 0, 0, 0, 0, 0, 0, 0⟩ 0 (.slice none 0 0)) (by kernel_rfl) ?_)
  intro g1 w1 HS1
  go_wp2_with (refine wl_st HS1 0 rfl rfl 166 _ _ rfl rfl rfl hst rfl (stv_one _ _ _ _ rfl) ?_)
  intro w3 HS3
  have hi3 := Lib.hid (show (Pc.row g1 (stv true h n (.slice A r.length c)) 166 :: R)[i + 1]? = _ from hi'.out)
  have hj3 := Lib.hid (show (Pc.row g1 (stv true h n (.slice A r.length c)) 166 :: R)[j + 1]? = _ from hj'.out)
  have c10 := cell_r HS3 (i + 1) hi3.out
  have HC := Lib.hid (clone_bytes _ r w3 (HS3.own (j + 1) hj3.out).rd (by omega))
  clear HS1 HS hst
  go_wp2_with fail
  refine HC.out.mono ?_
  rintro e w4 ⟨v4, rfl, b4, ho4⟩
  have HS4 := HS3.made b4 ho4
  obtain ⟨A4, c4, rfl, _⟩ := ho4.sl
  clear HS3 c10 HC b4 ho4
  go_wp2_with (refine wl_stc HS4 1 rfl rfl 65 _ _ rfl info_sl 10 (by (show 10 < 11); decide) rfl rfl rfl rfl ?_)
  intro w5 HS5
  go_wp2
  go_ret
  exact ⟨g1, _, rfl, HS5.front 1⟩
end Go.Proofs.YtlhebogbbkjahaaDoor
