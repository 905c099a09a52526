/- Slices that are read, and slices of the call's own, of elements of any number of cells: what their operations do. Plain theorems over the model. -/
import Derived.Test.YtlhebogbbkjahaaDoorLib
import Derived.Laws.AppendOwnNone
set_option linter.unusedVariables false
set_option linter.unusedSimpArgs false
namespace Cop
open Go Go.RowKit Go.ChangeShapes Go.WideShapes Go.ChangeAt

/-- Bytes as cells, a list. -/
def bl (l : List UInt8) : List Value := l.map fun b => Value.int .u8 (b.toNat : Int)
theorem bl_length (l : List UInt8) : (bl l).length = l.length := by simp [bl]
theorem bl_append (l m : List UInt8) : bl (l ++ m) = bl l ++ bl m := by simp [bl]
theorem bl_take (l : List UInt8) (n : Nat) : bl (l.take n) = (bl l).take n := by simp [bl, List.map_take]
theorem bl_drop (l : List UInt8) (n : Nat) : bl (l.drop n) = (bl l).drop n := by simp [bl, List.map_drop]
theorem bl_set (l : List UInt8) (n : Nat) (b : UInt8) : bl (l.set n b) = (bl l).set n (.int .u8 (b.toNat : Int)) := by simp [bl, List.map_set]
theorem bl_get (l : List UInt8) (i : Nat) (h : i < l.length) : (bl l)[i]? = some (.int .u8 ((l.getD i 0).toNat : Int)) := by simp [bl, List.getD, h]
theorem bv_toList (l : List UInt8) : (bv l).toList = bl l := by simp [bv, bl]
theorem bl_one (l : List UInt8) : ∀ u ∈ bl l, u.oneCell' = true := by
  intro u hu
  obtain ⟨b, _, rfl⟩ := List.mem_map.1 hu
  rfl
theorem bl_zero (n : Nat) : bl (List.replicate n 0) = List.replicate n (.int .u8 0) := by simp [bl]

theorem add_plain (b o j : Nat) : (⟨b, o, none⟩ : Addr).add j = ⟨b, o + j, none⟩ := by unfold Addr.add; split <;> simp_all

/-- A slice value of n elements of `size` cells, which reads as the cells cs. -/
def Rd (w : World) (v : Value) (n size : Nat) (cs : List Value) : Prop :=
  cs.length = n * size ∧ ∃ A c, v = .slice A n c ∧ n ≤ c ∧ c ≤ 9223372036854775807 ∧ (A = none → c = 0) ∧
    (0 < n → ∃ b o, A = some ⟨b, o, none⟩ ∧ ∀ j u, cs[j]? = some u → w.cell? ⟨b, o + j, none⟩ = some u)

theorem Rd.below {w w' : World} {v : Value} {n size : Nat} {cs : List Value} (h : Rd w v n size cs) (hb : Below w.heap.size w w') : Rd w' v n size cs := by
  obtain ⟨h1, A, c, h2, h3, h4, h5, h6⟩ := h
  refine ⟨h1, A, c, h2, h3, h4, h5, fun hn => ?_⟩
  obtain ⟨b, o, e, hc⟩ := h6 hn
  exact ⟨b, o, e, fun j u hu => bcell hb (hc j u hu)⟩
theorem Rd.mono {w w' : World} {v : Value} {n size : Nat} {cs : List Value} (h : Rd w v n size cs) (hk : ∀ p u, w.cell? p = some u → w'.cell? p = some u) : Rd w' v n size cs := by
  obtain ⟨h1, A, c, h2, h3, h4, h5, h6⟩ := h
  refine ⟨h1, A, c, h2, h3, h4, h5, fun hn => ?_⟩
  obtain ⟨b, o, e, hc⟩ := h6 hn
  exact ⟨b, o, e, fun j u hu => hk _ _ (hc j u hu)⟩
theorem Rd.nil (w : World) (size : Nat) : Rd w (.slice none 0 0) 0 size [] := ⟨by simp, none, 0, rfl, by omega, by omega, fun _ => rfl, fun h => absurd h (by omega)⟩
theorem Rd.shape {w : World} {v : Value} {n size : Nat} {cs : List Value} (h : Rd w v n size cs) : ∃ A c, v = .slice A n c ∧ n ≤ c ∧ c ≤ 9223372036854775807 := by
  obtain ⟨h1, A, c, h2, h3, h4, h5, h6⟩ := h
  exact ⟨A, c, h2, h3, h4⟩
theorem Rd.of_own {w : World} {base n size : Nat} {e : TypeId} {v : Value} {cs : List Value} (h : w.ownsRow base e size v n cs) : Rd w v n size cs := by
  refine ⟨h.1, ?_⟩
  rcases h.2 with ⟨rfl, rfl⟩ | ⟨g, cap, cur, rfl, hb, hg, hnc, hcm, hcs, ht⟩
  · exact ⟨none, 0, rfl, by omega, by omega, fun _ => rfl, fun h => absurd h (by omega)⟩
  · refine ⟨_, cap, rfl, hnc, by simp only [maxLen] at hcm; omega, by simp, fun hn => ⟨g, 0, rfl, fun j u hu => ?_⟩⟩
    have := h.cells (g := g) rfl j u hu
    rwa [add_plain] at this

/-- A row that was built. -/
theorem own_built (w : World) (cs : Array Value) (e : TypeId) (n size : Nat) (hn : cs.size = n * size) (hm : n ≤ 9223372036854775807) : (w.alloc (.cells cs e)).ownsRow w.heap.size e size (.slice (some ⟨w.heap.size, 0, none⟩) n n) n cs.toList :=
  ⟨by simpa using hn, .inr ⟨w.heap.size, n, cs, rfl, Nat.le_refl _, heap_alloc_new w _, Nat.le_refl _, by simp only [maxLen]; omega, hn, by rw [List.take_of_length_le]; simp [hn]⟩⟩
section
variable {P : Program} {w : World}
/-- x[lo:hi] of what is read. -/
theorem Rd.slice {v : Value} {n size : Nat} {cs : List Value} {t e : TypeId} (h : Rd w v n size cs) (ht : P.underlying t = some (.slice e)) (hs : (P.info? e).map (·.size) = some size)
    (lo hi : Nat) (h1 : lo ≤ hi) (h2 : hi ≤ n) : ∃ v', Rd w v' (hi - lo) size ((cs.take (hi * size)).drop (lo * size)) ∧
      (∀ W kl kh, (Instr.sliceAt t v (some (.int kl lo)) (some (.int kh hi)) none).run P W = .ok v' W) ∧
      (lo = 0 → ∀ W kh, (Instr.sliceAt t v none (some (.int kh hi)) none).run P W = .ok v' W) ∧
      (hi = n → ∀ W kl, (Instr.sliceAt t v (some (.int kl lo)) none none).run P W = .ok v' W) := by
  obtain ⟨hl, A, c, rfl, hc, hm, hA, hcell⟩ := h
  have hsz := fun W => run_sizeOf_gen (P := P) W hs
  refine ⟨.slice (if c = lo then A else A.map (·.add (lo * size))) (hi - lo) (c - lo), ?_, ?_, ?_, ?_⟩
  · refine ⟨by simp only [List.length_drop, List.length_take]; rw [hl, Nat.min_eq_left (Nat.mul_le_mul_right _ h2), Nat.sub_mul], _, _, rfl, by omega, by omega, ?_, ?_⟩
    · intro h0
      split at h0
      · omega
      · cases A with
        | none => have := hA rfl; omega
        | some a => simp at h0
    · intro h0
      obtain ⟨b, o, rfl, hcl⟩ := hcell (by omega)
      refine ⟨b, o + lo * size, by rw [if_neg (by omega)]; simp [add_plain], fun j u hu => ?_⟩
      rw [List.getElem?_drop] at hu
      have hj : lo * size + j < hi * size := by
        have := (List.getElem?_eq_some_iff.1 hu).1
        simp only [List.length_take] at this
        omega
      rw [List.getElem?_take, if_pos hj] at hu
      have := hcl _ u hu
      rwa [Nat.add_assoc]
  · intro W kl kh
    have e1 : (Instr.sliceAt t (.slice A n c) (some (.int kl lo)) (some (.int kh hi)) none).run P W = (Instr.slice t (.slice A n c) (some (.int kl lo)) (some (.int kh hi)) none).run P W := by
      unfold Instr.sliceAt; rw [Sem.run_bind, run_underlying ht]; rfl
    rw [e1]
    unfold Instr.slice
    rw [Sem.run_bind, run_underlying ht]
    simp [Result.andThen, Instr.sliceBounds, Instr.sliceBound, asIntOf, hsz, show hi ≤ c from by omega, h1]
  · intro h0 W kh
    subst h0
    have e1 : (Instr.sliceAt t (.slice A n c) none (some (.int kh hi)) none).run P W = (Instr.slice t (.slice A n c) none (some (.int kh hi)) none).run P W := by
      unfold Instr.sliceAt; rw [Sem.run_bind, run_underlying ht]; rfl
    rw [e1]
    unfold Instr.slice
    rw [Sem.run_bind, run_underlying ht]
    simp [Result.andThen, Instr.sliceBounds, Instr.sliceBound, asIntOf, hsz, show hi ≤ c from by omega]
  · intro h0 W kl
    subst h0
    have e1 : (Instr.sliceAt t (.slice A hi c) (some (.int kl lo)) none none).run P W = (Instr.slice t (.slice A hi c) (some (.int kl lo)) none none).run P W := by
      unfold Instr.sliceAt; rw [Sem.run_bind, run_underlying ht]; rfl
    rw [e1]
    unfold Instr.slice
    rw [Sem.run_bind, run_underlying ht]
    simp [Result.andThen, Instr.sliceBounds, Instr.sliceBound, asIntOf, hsz, h1]
end

section
variable {P : Program} {ops : Array Oper} {rest : List Oper} {o : Oper} {a : Act} {Q : Exit → Act → World → Prop}
/-- append(v, u...), v of the call's own, u read. -/
theorem wl_append_rd {w0 W : World} (base : Nat) (hgd : o.guard = none) (s x : Operand) (t e : TypeId) (z : Value) (size bytes : Nat)
    (ho : o.op = .call { callee := .builtin .append, args := #[s, x], argTypes := #[t, t] })
    (ht : P.underlying t = some (.slice e)) (hinfo : (P.info? e).map (fun i => (i.zero, i.size, i.bytes)) = some (some z, size, bytes)) (hz : z.cells.size = size) (hs0 : 0 < size) (hb0 : 0 < bytes)
    (v : Value) (n : Nat) (xs : List Value) (HO : W.ownsRow base e size v n xs) (HB : Below base w0 W) (hbase : base ≤ W.heap.size)
    (u : Value) (m : Nat) (cs : List Value) (HR : Rd W u m size cs) (h1 : ∀ c ∈ cs, c.oneCell' = true)
    (hs : a.eval s = v) (hx : a.eval x = u) (hl : (n + m) * bytes ≤ 140737488355328)
    (h : ∀ v1 w1, w1.ownsRow base e size v1 (n + m) (xs ++ cs) → Below base w0 w1 → W.grownBy w1 v.ownBlock → wpList P ops Q rest (a.put o.dst v1) w1) :
    wpList P ops Q (o :: rest) a W := by
  obtain ⟨i0, hi, hz0, hz1, hz2⟩ := info_parts hinfo
  have hlen : n + m ≤ 140737488355328 := Nat.le_trans (Nat.le_mul_of_pos_right _ hb0) hl
  obtain ⟨hcl, A, c, rfl, hc, hm, hA, hcell⟩ := HR
  have fin : ∀ v1 w1, w1.ownsRow base e size v1 (n + m) (xs ++ cs) → W.grownBy w1 v.ownBlock → wpList P ops Q rest (a.put o.dst v1) w1 := fun v1 w1 h2 h3 =>
    h v1 w1 h2 (HB.grown h3 hbase (own_base HO)) h3
  cases A with
  | none =>
    have hc0 := hA rfl
    have hm0 : m = 0 := by omega
    subst hc0
    subst hm0
    have hcs : cs = [] := List.eq_nil_of_length_eq_zero (by simpa using hcl)
    subst hcs
    exact wpList_append_own_none hgd s x t ho base e i0 size ht hi v n xs hs HO hx (fin v W (by simpa using HO) (World.grownBy.refl _ _))
  | some ad =>
    refine wpList_append_own W hgd s x t ho base e i0 z size bytes ht hi hz0 hz1 hz2 hz hs0 v n xs hs HO ad m c cs hx hcl ?_ h1 (by simp only [maxLen]; omega) hl hbase (fun v1 w1 h2 h3 _ => fin v1 w1 h2 h3)
    intro j y hy
    have hn : 0 < m := by
      rcases Nat.eq_zero_or_pos m with h0 | h0
      · subst h0
        have : cs = [] := List.eq_nil_of_length_eq_zero (by simpa using hcl)
        simp [this] at hy
      · exact h0
    obtain ⟨b, oo, e1, hcc⟩ := hcell hn
    have e2 : ad = ⟨b, oo, none⟩ := by simpa using e1
    subst e2
    rw [add_plain]
    exact hcc j y hy
/-- make([]T, l, c). -/
theorem wl_make {w0 W : World} (base : Nat) (hgd : o.guard = none) (l c : Operand) (t e : TypeId) (z : Value) (bytes : Nat) (hop : o.op = Op.makeSlice t l c)
    (ht : P.underlying t = some (.slice e)) (hinfo : (P.info? e).map (fun i => (i.zero, i.size, i.bytes)) = some (some z, 1, bytes)) (hz : z.cells = #[z])
    (kl kc : IntKind) (L C : Int) (n m : Nat) (HB : Below base w0 W) (hbase : base ≤ W.heap.size) (hl : a.eval l = .int kl L) (hc : a.eval c = .int kc C) (hL : L = (n : Int)) (hC : C = (m : Int)) (hnm : n ≤ m)
    (b2 : bytes * m ≤ 281474976710656) (b3 : m ≤ 9223372036854775807)
    (h : ∀ v1 w1, w1.ownsRow base e 1 v1 n (List.replicate n z) → Below base w0 w1 → W.grownBy w1 none → v1 = .slice (some ⟨W.heap.size, 0, none⟩) n m → wpList P ops Q rest (a.put o.dst v1) w1) :
    wpList P ops Q (o :: rest) a W := by
  obtain ⟨i0, hi, hz0, hz1, hz2⟩ := info_parts hinfo
  subst hL hC
  have hrun := run_make (P := P) W t e i0 z ht hi hz0 kl kc n m (by omega) (by omega) (by rw [hz2, ← Int.natCast_mul]; omega) (by omega)
  rw [hz1, hz, Nat.mul_one] at hrun
  have hg : W.grownBy (W.alloc (.cells (madeCells #[z] m) e)) none := World.grownBy_alloc W _ _
  have htake : (madeCells #[z] m).toList.take n = List.replicate n z := by
    apply List.ext_getElem
    · simp [size_madeCells]; omega
    · intro i h1 h2; simp [madeCells, Nat.mod_one]
  refine wpList_plain hgd fun K hK => ?_
  unfold Oper.wp
  simp only [execOp, hop, hl, hc, Sem.run_bind, hrun, Result.andThen, Sem.run_pure, Int.toNat_natCast]
  refine hK _ _ (h _ _ ⟨by simp, .inr ⟨W.heap.size, m, _, rfl, hbase, heap_alloc_new W _, hnm, by simp only [maxLen]; omega, by simp [size_madeCells], by rw [Nat.mul_one]; exact htake⟩⟩ ?_ hg rfl)
  exact HB.grown hg hbase (by simp)
/-- v[j] = y, in a row of the call's own. -/
theorem wl_store_own {w0 W : World} (base : Nat) (hgd : o.guard = none) (ad x : Operand) (ty e : TypeId) (hop : o.op = Op.store ty ad x) (hs1 : (P.info? ty).map (·.size) = some 1)
    (g n cap : Nat) (xs : List Value) (HO : W.ownsRow base e 1 (.slice (some ⟨g, 0, none⟩) n cap) n xs) (HB : Below base w0 W) (hbase : base ≤ W.heap.size)
    (j : Nat) (y : Value) (hj : j < n) (had : a.eval ad = .pointer (some ⟨g, j, none⟩)) (hx : a.eval x = y) (h1 : y.oneCell' = true) (hyc : y.cells = #[y])
    (h : ∀ w1, w1.ownsRow base e 1 (.slice (some ⟨g, 0, none⟩) n cap) n (xs.set j y) → Below base w0 w1 → W.grownBy w1 (some g) → w1.heap.size = W.heap.size → wpList P ops Q rest (a.put o.dst undef) w1) :
    wpList P ops Q (o :: rest) a W := by
  obtain ⟨r1, r2⟩ := HO.stored j y
  have hb : base ≤ g := own_base HO g rfl
  obtain ⟨g', cap', cur, e1, _, hg, hnc, hcm, hcs, htk⟩ : ∃ g' cap' cur, Value.slice (some ⟨g, 0, none⟩) n cap = .slice (some ⟨g', 0, none⟩) n cap' ∧ base ≤ g' ∧ W.heap[g']? = some (.cells cur e (0, 0)) ∧ n ≤ cap' ∧ cap' ≤ maxLen ∧ cur.size = cap' * 1 ∧ cur.toList.take (n * 1) = xs := by
    rcases HO.2 with ⟨h0, _⟩ | h0
    · simp at h0
    · exact h0
  simp only [Value.slice.injEq, Option.some.injEq, Addr.mk.injEq, and_true, true_and] at e1
  obtain ⟨rfl, rfl⟩ := e1
  have hcellj : W.cell? ⟨g, j, none⟩ = some cur[j]! := by
    rw [cell_of_row _ _ _ _ _ _ hg]
    simp [show j < cur.size from by omega]
  have hfr : W.frozen? ⟨g, j, none⟩ = false := frozen_of_row _ _ _ _ _ hg
  have hrun : (storeVar ty ⟨g, j, none⟩ y).run P W = .ok () (W.setCell ⟨g, j, none⟩ y) := by
    unfold storeVar
    rw [Sem.run_bind, run_sizeOf_gen (P := P) W hs1]
    simp only [Result.andThen, hyc]
    cases y <;> simp [storeCells, store, Sem.run, add_plain, hcellj, hfr, Value.oneCell'] at h1 ⊢ <;> simp [Sem.run_bind', Sem.run, hcellj, hfr]
  refine wpList_plain hgd fun K hK => ?_
  unfold Oper.wp
  simp only [execOp, hop, had, hx, Instr.storeAt, Instr.sureAddr, Sem.run_bind, Sem.run_pure, Result.andThen_ok, hrun]
  refine hK _ _ (h _ r1 (HB.grown r2 hbase (by intro k hk; simp at hk; omega)) r2 ?_)
  simp [World.setCell]
end

/-! ### Strings of bytes; bytes that came in -/
/-- A string of these bytes. -/
def sv (l : List UInt8) : Value := .string ⟨l.toArray⟩
theorem strOfNums_bytes (l : List UInt8) : strOfNums (l.map fun b => (b.toNat : Int)) = ⟨l.toArray⟩ := by
  unfold strOfNums
  simp [List.map_map, Function.comp_def]
section
variable {P : Program} {w : World}
theorem Rd.string {v : Value} {n : Nat} {l : List UInt8} {src dst e : TypeId} (h : Rd w v n 1 (bl l)) (hs : P.underlying src = some (.slice e)) (he : P.underlying e = some (.int .u8)) (hd : P.underlying dst = some .string) :
    (convert src dst v).run P w = .ok (sv l) w := by
  obtain ⟨hl, A, c, rfl, hc, hm, hA, hcell⟩ := h
  have hn : l.length = n := by simpa [bl_length] using hl
  rcases Nat.eq_zero_or_pos n with h0 | h0
  · subst h0
    have : l = [] := List.eq_nil_of_length_eq_zero hn
    subst this
    cases A with
    | none => exact run_convert_bytes_nil w src e hs he 0 c dst hd
    | some a =>
      obtain ⟨b, o, s⟩ := a
      rw [run_convert_bytes_string w src dst e _ 0 c hs he hd]
      simp [Conv.bytesToString, sv, loadCells, loadCellsFrom]
      rfl
  · obtain ⟨b, o, rfl, hcl⟩ := hcell h0
    have := run_convert_bytes_arg (P := P) w src e hs he b o n c (l.map fun b => (b.toNat : Int)) (by simpa using hn) (fun i hi => by
      rw [hcl i _ (bl_get l i (by omega))]
      simp [List.getD, show i < l.length from by omega]) dst hd
    rw [this, strOfNums_bytes, sv]
end
section
variable {H : Type} {enc : TypeId × Value → H} {P : Program} {w : World} {t e : TypeId} {v : Value} {d : DataW H} {ps : List MemPlace}
/-- Bytes that came in: what they read as, and that they are within the reach. -/
theorem open_bslice {r : Reach} {base' : Nat} (ht : P.underlying t = some (.slice e)) (he : P.underlying e = some (.int .u8)) (hce : P.cellsOf e = 1) (hbe : P.bytesOf e = 1)
    (h : DataW.Trod enc P w 0 (fun _ => true) true t v d ps) (hv : Value.okWide P w r base' t v)
    {ts : List TypeId} {ds : List (DataW H)} (hsz : (DataW.weightsEach P ts ds).all (· ≤ reachBytes) = true) (j : Nat) (hj : ts[j]? = some t) (hd : ds[j]? = some d) :
    ∃ l : List UInt8, Rd w v l.length 1 (bl l) ∧ l.length ≤ 140737488351232 := by
  obtain ⟨a0, len, cap, rfl⟩ := Go.WideShapes.okWide_slice ht hv
  obtain ⟨fuel, hf⟩ := h
  rcases open_ints ht he hce hf with ⟨hcs, _⟩ | ⟨a, len', cap', zs, hcs, _, hl, hm, hz, hx, hcell, hwz⟩
  · simp [Value.cells] at hcs
    obtain ⟨rfl, rfl, rfl⟩ := hcs
    exact ⟨[], Rd.nil w 1, by simp⟩
  · simp [Value.cells] at hcs
    obtain ⟨rfl, rfl, rfl⟩ := hcs
    have hz : zs.length = cap := by simpa using hz
    obtain ⟨l, hl2, hc2⟩ := bytes_of_list ((zs.take len).map (Value.int .u8)) len (by simp; omega) (fun i hi => by
      have : i < zs.length := by omega
      obtain ⟨b, hb⟩ := u8_of_wf (hwz zs[i] (List.getElem_mem _))
      refine ⟨b, ?_⟩
      rw [List.getElem?_map, List.getElem?_take, if_pos hi, List.getElem?_eq_getElem this, hb]
      rfl)
    have hcs : (zs.take len).map (Value.int .u8) = bl l := by
      have := congrArg Array.toList hc2
      simpa [bv_toList] using this
    have hbytes : cap ≤ 140737488351232 := by
      simp only [Prod.mk.injEq] at hx
      have hd2 := hd
      rw [hx.1] at hd2
      have := sized_slice hsz hj hd2 ht
      rw [hbe] at this
      simp only [lits, List.length_map, List.length_take, List.length_drop, reachBytes] at this
      omega
    refine ⟨l, ⟨by simp [bl_length], some a, cap, by rw [hl2], by omega, by omega, by simp, fun h0 => ?_⟩, by omega⟩
    obtain ⟨b, o, s⟩ := a
    have h1 := hcell 0 (by omega)
    have hs : s = none := by
      have h2 : (⟨b, o, s⟩ : Addr).add 0 = ⟨b, o, s⟩ := rfl
      rw [h2] at h1
      simpa using World.cell?_spot h1
    subst hs
    refine ⟨b, o, rfl, fun i u hu => ?_⟩
    rw [← hcs, List.getElem?_map, List.getElem?_take] at hu
    have hi : i < len := by
      have := (List.getElem?_eq_some_iff.1 (by rw [← List.getElem?_take, ← List.getElem?_map] at hu; exact hu)).1
      simp at this; omega
    rw [if_pos hi, List.getElem?_eq_getElem (by omega)] at hu
    have h3 := hcell i (by omega)
    rw [add_plain] at h3
    rw [h3, ← hu]
    simp [List.getD, show i < zs.length from by omega]
end
end Cop
