import Derived.Test.YtlhebogbbkjahaaDoorSc
namespace Go.Proofs.YtlhebogbbkjahaaDoor
open Go.RowKit Cop
set_option linter.unusedVariables false
set_option linter.unusedSimpArgs false
/-- What is returned stands in a row, and beside it in two slots. -/
theorem ret_row_tmp2 {P : Program} {fn : Func} {R : Ending → World → Prop} {a : Act} {w : World} {p q s : Tmp} {ty : TypeId} (h : fn.results = #[.cell p ty, .tmp q, .tmp s]) (hd0 : a.defers = []) (g : Nat) (hp : a.tmps.getD p undef = .pointer (some ⟨g, 0, none⟩))
    (t : TypeId) (cs : Array Value) (fr : Nat × Nat) (d : TypeDesc) (hg : w.heap[g]? = some (.cells cs t fr)) (hu : P.underlying ty = some d) (hd : (match d with | .struct _ | .array _ _ => true | _ => false) = true) (hi : (P.info? ty).map (·.size) = some cs.size)
    (v u : Value) (hv : a.tmps.getD q undef = v) (hu2 : a.tmps.getD s undef = u) (hR : R (.returned (.tuple #[.agg cs, v, u])) w) : bodyPost P fn R .ret a w := by
  refine bodyPost_ret (v := .tuple #[.agg cs, v, u]) ?_ hd0 hR
  have hld := run_loadVar_row (P := P) w g t ty cs fr d hg hu (by revert hd; cases d <;> simp) hi
  have hp2 : a.tmps[p]?.getD undef = .pointer (some ⟨g, 0, none⟩) := by rw [← hp]; simp
  have hv2 : a.tmps[q]?.getD undef = v := by rw [← hv]; simp
  have hu3 : a.tmps[s]?.getD undef = u := by rw [← hu2]; simp
  simp only [results, h]
  simp [Sem.run_bind, Result.andThen, hp2, asAddr, hld, hv2, hu3]
theorem info_d32 : (Tryd.prog.info? 32).map (·.size) = some 32 := by kernel_rfl
theorem fill32_set (l : List UInt8) (i : Nat) (hi : i < 32) (hl : 32 ≤ l.length) : (l.take i ++ List.replicate (32 - i) 0).set i (l.getD i 0) = l.take (i + 1) ++ List.replicate (32 - (i + 1)) 0 := by
  rw [List.set_append_right _ _ (by simp; omega), List.length_take, Nat.min_eq_left (by omega), Nat.sub_self, show 32 - i = (32 - (i + 1)) + 1 from by omega, List.replicate_succ, List.set_cons_zero, List.take_succ_eq_append_getElem (show i < l.length from by omega), List.append_assoc]
  congr 1
  simp [List.getD, show i < l.length from by omega]
set_option maxRecDepth 100000 in
set_option maxHeartbeats 4000000 in
theorem digest_b (l : List UInt8) (at' : Nat) (v : Value) (w : World) (hR : Rd w v l.length 1 (bl l)) (ha : at' + 32 ≤ l.length) (hm : l.length ≤ 9223372036854775807) :
    Calls Tryd.prog 53 #[v, .int .i64 at'] w fun e w' => e = .returned (.tuple #[.agg (bv ((l.drop at').take 32)), .int .i64 ((at' + 32 : Nat) : Int), .int .i64 0]) ∧ Below w.heap.size w w' := by
  obtain ⟨A, c, rfl, hc, hcm⟩ := hR.shape
  have HR := Lib.hid hR
  obtain ⟨m, hml⟩ : ∃ m : List UInt8, l.drop at' = m := ⟨_, rfl⟩
  have hlm : 32 ≤ m.length := by rw [← hml]; simp; omega
  rw [hml]
  have HML := Lib.hid hml
  clear hR hml
  obtain ⟨vb, hvb⟩ : ∃ vb, bv (m.take 32) = vb := ⟨_, rfl⟩
  rw [hvb]
  have HVB := Lib.hid hvb
  clear hvb
  obtain ⟨n, hn⟩ : ∃ n, l.length = n := ⟨_, rfl⟩
  rw [hn] at ha hm hc HR ⊢
  have HN := Lib.hid hn
  clear hn
  go_enter Tryd.func53, Tryd.ntmps53
  have ha1 : ¬ (n : Int) < (at' : Int) := by omega
  have ha2 : ¬ (n : Int) - (at' : Int) < 32 := by omega
  go_wp2
  first | refine Cop.wl_world fun w1 hw1 => ?_ | refine Cop.calls_world fun w1 hw1 => ?_ | refine Cop.exit_world fun w1 hw1 => ?_ | refine Cop.code_world fun w1 hw1 => ?_
  have r4 : w1.heap[w.heap.size]? = some (.cells (bv (List.replicate 32 0)) 32 (0, 0)) := by rw [← hw1]; exact at_old _ _ _ (by simp) (at_new _ _ _ rfl)
  have r7 : w1.heap[w.heap.size + 1]? = some (.cells (bv (m.take 0 ++ List.replicate (32 - 0) 0)) 32 (0, 0)) := by rw [List.take_zero, List.nil_append, ← hw1]; exact at_new _ _ _ (by simp)
  have bb : Below w.heap.size w w1 := by rw [← hw1]; exact ((Below.refl _ _).alloc (Nat.le_refl _) _).alloc (by simp) _
  clear hw1
  go_loopw [8] (fun s8 wr => ∃ i : Nat, i ≤ 32 ∧ s8 = .int .i64 i ∧ Below w.heap.size w wr ∧ wr.heap[w.heap.size]? = some (.cells (bv (List.replicate 32 0)) 32 (0, 0)) ∧
    wr.heap[w.heap.size + 1]? = some (.cells (bv (m.take i ++ List.replicate (32 - i) 0)) 32 (0, 0))) (fun s8 _ => 32 - (intOf s8).toNat)
  case atStart => exact ⟨0, by omega, rfl, bb, r4, r7⟩
  case round =>
    clear r4 r7 bb
    obtain ⟨i, hi, rfl, bb, r4, r7⟩ := hrel
    have R4 := Lib.hid r4
    by_cases hlt : i < 32
    · obtain ⟨_, A', c', he, _, _, _, hcell⟩ := (HR.out.below bb)
      obtain ⟨bk, o, rfl, hcl⟩ := hcell (by omega)
      simp only [Value.slice.injEq, true_and] at he
      obtain ⟨rfl, rfl⟩ := he
      have c1 := hcl (at' + i) _ (bl_get l (at' + i) (by rw [HN.out]; omega))
      have e1 : l.getD (at' + i) 0 = m.getD i 0 := by rw [← HML.out]; simp [List.getD]
      rw [e1] at c1
      obtain ⟨y, c5⟩ : ∃ y, wr.cell? ⟨w.heap.size + 1, i, none⟩ = some y := ⟨_, row_bv r7 i (by simp; omega)⟩
      have f5 := row_thaw r7 i
      have HS := Lib.hid (fill32_set m i hlt hlm)
      have R7 := Lib.hid r7
      clear r4 r7
      clear hcell
      clear hcl e1
      generalize m.getD i 0 = x at c1 HS
      have hi1 : (i : Int) < 32 := by omega
      have hi2 : (at' : Int) + (i : Int) < (n : Int) := by omega
      go_wp2
      go_roundw
      case rel =>
        refine ⟨i + 1, by omega, by go_num, bb.setCell (by simp) _, row_skip (by omega) _ _ R4.out, ?_⟩
        rw [row_set R7.out, bv_set, HS.out]
      case measure => simp [intOf]; omega
    · have hi32 : i = 32 := by omega
      subst hi32
      clear hlt hi
      rw [show m.take 32 ++ List.replicate (32 - 32) 0 = m.take 32 from by simp] at r7
      have hsb : (Tryd.prog.info? 32).map (·.size) = some (bv (m.take 32)).size := by rw [bv_size, show (m.take 32).length = 32 by simp; omega]; exact info_d32
      have hss : (bv (List.replicate 32 0)).size = (bv (m.take 32)).size := by rw [bv_size, bv_size, show (m.take 32).length = 32 by simp; omega]; rfl
      have h1 := bv_one (m.take 32)
      rw [HVB.out] at hsb hss h1 r7
      have HSB := Lib.hid hsb
      have HSS := Lib.hid hss
      have R7 := Lib.hid r7
      have H1 := Lib.hid h1
      clear hsb hss r7 r4 h1
      go_wp2_with (first | refine wl_load_row rfl 32 _ rfl (w.heap.size + 1) rfl 32 vb (0, 0) _ R7.out Tryd.underlying32 rfl HSB.out ?_ | refine wl_store_row rfl 32 _ _ rfl w.heap.size rfl 32 (bv (List.replicate 32 0)) vb rfl R4.out HSB.out HSS.out H1.out ?_)
      exact ret_row_tmp2 rfl rfl w.heap.size rfl 32 vb (0, 0) _ (setRow_heap _ _ _ _ _ _ R4.out) Tryd.underlying32 rfl HSB.out _ _ rfl rfl ⟨by simp, below_setRow bb (Nat.le_refl _) _⟩
/-- append(v, u...), v of the call's own, u read: in a region that draws its order. -/
theorem wp_append_rd {P : Program} {o : Oper} {a : Act} {K : Act → World → Prop} {Q : Exit → Act → World → Prop} {w0 W : World} (base : Nat) (s x : Operand) (t e : TypeId) (z : Value) (size bytes : Nat)
    (ho : o.op = .call { callee := .builtin .append, args := #[s, x], argTypes := #[t, t] })
    (ht : P.underlying t = some (.slice e)) (hinfo : (P.info? e).map (fun i => (i.zero, i.size, i.bytes)) = some (some z, size, bytes)) (hz : z.cells.size = size) (hs0 : 0 < size) (hb0 : 0 < bytes)
    (v : Value) (n : Nat) (xs : List Value) (HO : W.ownsRow base e size v n xs) (HB : Below base w0 W) (hbase : base ≤ W.heap.size)
    (u : Value) (m : Nat) (cs : List Value) (HR : Rd W u m size cs) (h1 : ∀ c ∈ cs, c.oneCell' = true)
    (hs : a.eval s = v) (hx : a.eval x = u) (hl : (n + m) * bytes ≤ 140737488355328)
    (h : ∀ v1 w1, w1.ownsRow base e size v1 (n + m) (xs ++ cs) → Below base w0 w1 → W.grownBy w1 v.ownBlock → K (a.put o.dst v1) w1) : o.wp P a W K Q := by
  obtain ⟨i0, hi, hz0, hz1, hz2⟩ := info_parts hinfo
  have hlen : n + m ≤ 140737488355328 := Nat.le_trans (Nat.le_mul_of_pos_right _ hb0) hl
  obtain ⟨hcl, A, c, rfl, hc, hm, hA, hcell⟩ := HR
  cases A with
  | none =>
    have hc0 := hA rfl
    have hm0 : m = 0 := by omega
    subst hc0
    subst hm0
    have hcs : cs = [] := List.eq_nil_of_length_eq_zero (by simpa using hcl)
    subst hcs
    have hrun := run_append_owned_none (P := P) (w := W) base t o.type e i0 size ht hi v n xs HO
    unfold Oper.wp
    simp [execOp, ho, resolve, invoke, builtin, hs, hx, hrun, Result.andThen]
    exact h v W (by simpa using HO) HB (World.grownBy.refl _ _)
  | some ad =>
    refine wp_append_own (w := W) s x t ho base e i0 z size bytes ht hi hz0 hz1 hz2 hz hs0 v n xs hs HO ad m c cs hx hcl ?_ h1 (by simp only [maxLen]; omega) hl hbase (fun v1 w1 h2 h3 _ => h v1 w1 h2 (HB.grown h3 hbase (own_base HO)) h3)
    intro j y hy
    have hn : 0 < m := by
      rcases Nat.eq_zero_or_pos m with h0 | h0
      · subst h0
        have : cs = [] := List.eq_nil_of_length_eq_zero (by simpa using hcl)
        simp [this] at hy
      · exact h0
    obtain ⟨b, oo, e1, hcc⟩ := hcell hn
    have e2 : ad = ⟨b, oo, none⟩ := by simpa using e1
    subst e2
    rw [add_plain]
    exact hcc j y hy
end Go.Proofs.YtlhebogbbkjahaaDoor
