/- Proved here: the way up from any leaf is the document's, also where the loop over it is left (node.Up); without condition. -/
import Derived.Test.YtcjnheabkdalbaaUq
import Derived.Test.YtcjnheabkdalbaaFNodeUps
namespace Go.Proofs.Ytcjnheabkdalbaa
open Go.RowKit Go.Shelf Cop
set_option linter.unusedVariables false
set_option linter.unusedSimpArgs false
section
variable {P : Program} {w0 w : World} {B : Nat} {R : List Pc} {o : Oper} {a : Act} {K : Act → World → Prop} {Q : Exit → Act → World → Prop}
/-- One cell of a row is stored. -/
theorem ow_stx (HS : Sep B w0 w R) (i : Nat) {g : Nat} {old : Array Value} {t : TypeId} (hi : R[i]? = some (.row g old t)) (ty : TypeId) (ad x : Operand) (hop : o.op = .store ty ad x) (hs1 : (P.info? ty).map (·.size) = some 1) (off : Nat) (hoff : off < old.size) {y : Value} (had : a.eval ad = .pointer (some ⟨g, off, none⟩)) (hx : a.eval x = y)
    (h1 : y.oneCell' = true) (hyc : y.cells = #[y]) (h : Sep B w0 (w.setCell ⟨g, off, none⟩ y) (R.set i (.row g (old.setIfInBounds off y) t)) → K (a.put o.dst undef) (w.setCell ⟨g, off, none⟩ y)) : o.wp P a w K Q := by
  have hg := HS.row i hi
  have hcellj : w.cell? ⟨g, off, none⟩ = some old[off] := by rw [cell_of_row _ _ _ _ _ _ hg]; simp [hoff]
  have hfr : w.frozen? ⟨g, off, none⟩ = false := frozen_of_row _ _ _ _ _ hg
  have hrun : (storeVar ty ⟨g, off, none⟩ y).run P w = .ok () (w.setCell ⟨g, off, none⟩ y) := by
    unfold storeVar
    rw [Sem.run_bind, run_sizeOf_gen (P := P) w hs1]
    simp only [Result.andThen, hyc]
    cases y <;> simp [storeCells, store, Sem.run, add_plain, hcellj, hfr, Value.oneCell'] at h1 ⊢ <;> simp [Sem.run_bind', Sem.run, hcellj, hfr]
  unfold Oper.wp
  simp only [execOp, hop, had, hx, Instr.storeAt, Instr.sureAddr, Sem.run_bind, Sem.run_pure, Result.andThen_ok, hrun]
  exact h (HS.setCell i hi off y)
theorem wl_stx {ops : Array Oper} {rest : List Oper} {Q : Exit → Act → World → Prop} (HS : Sep B w0 w R) (i : Nat) {g : Nat} {old : Array Value} {t : TypeId} (hi : R[i]? = some (.row g old t)) (hgd : o.guard = none) (ty : TypeId) (ad x : Operand) (hop : o.op = .store ty ad x) (hs1 : (P.info? ty).map (·.size) = some 1) (off : Nat) (hoff : off < old.size) {y : Value} (had : a.eval ad = .pointer (some ⟨g, off, none⟩)) (hx : a.eval x = y)
    (h1 : y.oneCell' = true) (hyc : y.cells = #[y]) (h : Sep B w0 (w.setCell ⟨g, off, none⟩ y) (R.set i (.row g (old.setIfInBounds off y) t)) → wpList P ops Q rest (a.put o.dst undef) (w.setCell ⟨g, off, none⟩ y)) : wpList P ops Q (o :: rest) a w :=
  wpList_plain hgd fun _ hK => ow_stx HS i hi ty ad x hop hs1 off hoff had hx h1 hyc fun h2 => hK _ _ (h h2)
theorem run_results_cell {fn : Func} {a : Act} {w : World} {p : Tmp} {ty : TypeId} (h : fn.results = #[.cell p ty]) (g : Nat) (hp : a.tmps.getD p undef = .pointer (some ⟨g, 0, none⟩)) (v : Value) (hc : w.cell? ⟨g, 0, none⟩ = some v) (hagg : ∀ w, (isAgg ty).run P w = .ok false w) :
    (results fn a.tmps).run P w = .ok v w := by
  have hp2 : a.tmps[p]?.getD undef = .pointer (some ⟨g, 0, none⟩) := by rw [← hp]; simp
  simp only [results, h]
  simp [hp2, asAddr, loadVar, hagg, load, hc, Sem.run, Result.andThen]
/-- A way out behind the loop. -/
theorem ret_cellD {F : Fence} {n : Nat} {fn : Func} {R : Ending → World → Prop} {a : Act} {w : World} {p : Tmp} {ty : TypeId} (h : fn.results = #[.cell p ty]) (D : Nat) (hd0 : a.defers = [{ target := .collected D, args := #[] }]) (hD : w.heap[D]? = some (.deferred (some []))) (g : Nat) (hp : a.tmps.getD p undef = .pointer (some ⟨g, 0, none⟩))
    (cs : Array Value) (t : TypeId) (hg : w.heap[g]? = some (.cells cs t (0, 0))) (v : Value) (hv : cs[0]? = some v) (hagg : ∀ w, (isAgg ty).run P w = .ok false w)
    (hR : R (.returned v) (w.putObj D (.deferred none))) : bodyPostM F n P fn R .ret a w := by
  show LeavesInM F n P fn a.tmps R a.defers .returning w
  rw [hd0]
  refine ⟨by simp, .inl ⟨_, _, rfl, run_takeDeferred hD, ?_⟩⟩
  have hne : g ≠ D := fun e => by rw [e, hD] at hg; cases hg
  have hg2 : (w.putObj D (.deferred none)).heap[g]? = some (.cells cs t (0, 0)) := (World.putObj_heap_other hne).trans hg
  exact ⟨_, run_results_cell h g hp v (by rw [row_cell hg2]; exact hv) hagg, hR⟩
theorem keeps_setCell {W : World} {g off : Nat} {v : Value} {old : Array Value} {t : TypeId} {fr : Nat × Nat} (h : W.heap[g]? = some (.cells old t fr)) : KeepsOthers W (W.setCell ⟨g, off, none⟩ v) := by
  refine ⟨by simp [World.setCell], fun k o hk ho => ?_⟩
  by_cases e : k = g
  · subst e; rw [h] at hk; injection hk with hk; subst hk; cases ho
  · rw [Below.heap_setCell W _ v k (fun e2 => e e2)]; exact hk
theorem keepsBut_setCell (n₀ g off : Nat) (v : Value) (W : World) : KeepsBut n₀ g W (W.setCell ⟨g, off, none⟩ v) := ⟨by simp [World.setCell], fun k hk hne => Below.heap_setCell W _ v k (fun e => hne e)⟩
end
section
variable {P : Program} {w : World} {o : Oper} {a : Act}
theorem wl_alx {ops : Array Oper} {rest : List Oper} {Q : Exit → Act → World → Prop} (hgd : o.guard = none) (ty : TypeId) (hop : o.op = .alloc ty) (cs : Array Value) (hz : (P.info? ty).map (·.zero) = some (some (.agg cs))) (h : wpList P ops Q rest (a.put o.dst (.pointer (some ⟨w.heap.size, 0, none⟩))) (w.alloc (.cells cs ty))) : wpList P ops Q (o :: rest) a w := by
  refine wpList_plain hgd fun K hK => ?_
  obtain ⟨i, hi, hz⟩ := Option.map_eq_some_iff.1 hz
  exact ow_alloc ty hop cs (by simp [zeroValue, typeInfo, hi, hz]) (hK _ _ h)
end
set_option maxRecDepth 100000 in
theorem fn_nil (f : FuncId) (bs : Array Value) (w : World) : (binOp .eql 28 (.func (.func f) #[] bs) .nilFunc).run Try.prog w = .ok (.bool false) w := by
  simp only [binOp, Op.equal]
  rw [show Op.maxDepth = 9999 + 1 from rfl]
  unfold Op.equalIn
  simp only [Sem.run_bind, run_underlying Try.underlying28, Result.andThen_ok, Sem.run_pure]
/-- How the loop is left. -/
def LeftUp (B : Nat) (w : World) (L : List (Nat × Nat)) (stop : Int) (Z : Nat) (R : List (Nat × Nat) → List Pc) (cd : Code) (px : List (Nat × Nat)) (W : World) : Prop :=
  ∃ pre x, px = pre ++ [x] ∧ ((cd = .exit 0 ∧ (pre.length : Int) = stop ∧ Sep B w W (R pre) ∧ Z ≤ W.heap.size) ∨ (cd = .ret ∧ ¬ ∃ t, px ++ t = L))
set_option maxRecDepth 100000 in
set_option maxHeartbeats 8000000 in
theorem nodeUps_walk (leaf level stop : Int) (w : World) (hlv : level ≤ 9223372036854775807) (hlv2 : -9223372036854775808 ≤ level) : Gives 4 #[.int .i64 leaf, .int .i64 level, .int .i64 stop] w (.bool true) := by
  have CU := Lib.hid (fun w' => rup_a leaf level w' hlv hlv2)
  have CN := Lib.hid (fun w' => up_a leaf level w')
  have hN48 : (upP leaf level).length ≤ 49 := by rw [upP_length]; unfold upN; split <;> omega
  have HST := Lib.hid (fun (n : Nat) (hn : 1 ≤ n) (n₀ g B1 B2 : Nat) => up_stops n hn n₀ g B1 B2 leaf level)
  obtain ⟨L, hL⟩ : ∃ L, upP leaf level = L := ⟨_, rfl⟩
  simp only [hL] at HST
  rw [hL] at CU hN48
  have HS0 := Sep.start w
  clear hL
  refine calls_marks Try.func4 rfl ?_
  simp only [Try.ntmps4, List.size_toArray, List.length_cons, List.length_nil, Nat.reduceAdd, Nat.reduceSub, Array.replicate_succ, Array.replicate_zero, List.push_toArray, List.append_toArray, List.nil_append, List.cons_append]
  go_wp2_with (first | refine wl_bx1 HS0 rfl 3 _ rfl (.int .i64 stop) rfl rfl ?_)
  intro g5 w1 HS1
  go_wp2_with (first | refine wl_al1 HS1 rfl 4 rfl (.bool false) rfl (by kernel_rfl) ?_)
  intro g6 w2 HS2
  clear HS0 HS1
  go_wp2_with fail
  (with_reducible refine Calls.mono (CU.out _) ?_)
  rintro e w3 ⟨v, rfl, b3, o3⟩
  have HS3 := HS2.made b3 o3
  obtain ⟨A, c, rfl, _⟩ := (HS3.own 0 rfl).sl
  clear HS2 b3 o3
  go_wp2_with (first | refine wl_al1 HS3 rfl 25 rfl (.slice none 0 0) rfl (by kernel_rfl) ?_)
  intro g7 w4 HS4
  go_wp2_with (first | refine wl_stc HS4 0 rfl rfl 25 _ _ rfl (by kernel_rfl) 0 (by simp) (y := .slice A L.length c) rfl rfl rfl rfl ?_)
  intro w5 HS5
  go_wp2_with (first | refine wl_al1 HS5 rfl 3 rfl (.int .i64 0) rfl (by kernel_rfl) ?_)
  intro g8 w6 HS6
  go_wp2_with (first | refine wl_stc HS6 0 rfl rfl 3 _ _ rfl (by kernel_rfl) 0 (by simp) (y := .int .i64 0) rfl rfl rfl rfl ?_)
  intro w7 HS7
  clear HS3 HS4 HS5 HS6
  go_wp2_with fail
  (with_reducible refine Calls.mono (CN.out _) ?_)
  rintro e w8 ⟨rfl, rfl⟩
  have hfn := fun W => fn_nil 43 #[.pointer (some ⟨w7.heap.size, 0, none⟩), .pointer (some ⟨w7.heap.size + 1, 0, none⟩)] W
  go_wp2_with fail
  have HSw := (HS7.skip (.cells #[.int .i64 leaf] 3)).skip (.cells #[.int .i64 level] 3)
  have hB1 : ((w7.alloc (.cells #[.int .i64 leaf] 3)).alloc (.cells #[.int .i64 level] 3)).cell? ⟨w7.heap.size, 0, none⟩ = some (.int .i64 leaf) := by
    rw [row_cell (at_old _ _ _ (by simp) (heap_alloc_new w7 _)) 0]; rfl
  have hB2 : ((w7.alloc (.cells #[.int .i64 leaf] 3)).alloc (.cells #[.int .i64 level] 3)).cell? ⟨w7.heap.size + 1, 0, none⟩ = some (.int .i64 level) := by
    rw [row_cell (at_new _ _ _ (by simp)) 0]; rfl
  have hg8 : g8 < w7.heap.size := (Array.getElem?_eq_some_iff.1 (HS7.row 0 rfl)).1
  have hww : w.heap.size ≤ w7.heap.size := HS7.hB
  clear HS7
  refine rf_intro ?_
  intro a0 ha0
  refine (wpIn_wide (n := 9)).1 ?_
  refine wpIn_rangeFunc_ownH (F := Fence.wide) rfl (by decide) (gf := 43) (lb := #[.pointer (some ⟨w7.heap.size, 0, none⟩), .pointer (some ⟨w7.heap.size + 1, 0, none⟩)]) (by rw [ha0]; rfl) trivial (enters_of Try.func43 (by kernel_rfl) rfl)
    (HST.out 8 (by decide) (w7.heap.size + 2) g8 w7.heap.size (w7.heap.size + 1) (by omega) (by omega) (by omega) (by omega) _ (by simp) hB1 hB2) KeepsBut.trans (keepsBut_b (by simp)) (Below.refl _ _) (fun _ => rfl)
    (fun pre W => Sep w.heap.size w W [.row g8 #[.int .i64 (pre.length : Int)] 3, .row g7 #[.slice A L.length c] 25, .own (.slice A L.length c) 31 2 L.length (scs L), .row g6 #[.bool false] 4, .row g5 #[.int .i64 stop] 3] ∧ w7.heap.size + 2 ≤ W.heap.size ∧ Hid (∀ j, j < pre.length → pre[j]? = L[j]?))
    (LeftUp w.heap.size w L stop (w7.heap.size + 2) (fun pre => [.row g8 #[.int .i64 (pre.length : Int)] 3, .row g7 #[.slice A L.length c] 25, .own (.slice A L.length c) 31 2 L.length (scs L), .row g6 #[.bool false] 4, .row g5 #[.int .i64 stop] 3]))
    (fun pre W W' row hs hg hr => ⟨(ownFrom_sep (by simp; omega) (fun pre : List (Nat × Nat) => [.row g8 #[.int .i64 (pre.length : Int)] 3, .row g7 #[.slice A L.length c] 25, .own (.slice A L.length c) 31 2 L.length (scs L), .row g6 #[.bool false] 4, .row g5 #[.int .i64 stop] 3])) pre W W' row hs.1 hg hr, Nat.le_trans hs.2.1 hg.size, hs.2.2⟩)
    (fun cd px W W' row hs hg hr => by
      obtain ⟨pre, x, hpx, h | h⟩ := hs
      · exact ⟨pre, x, hpx, .inl ⟨h.1, h.2.1, (ownFrom_sep (by simp; omega) (fun pre : List (Nat × Nat) => [.row g8 #[.int .i64 (pre.length : Int)] 3, .row g7 #[.slice A L.length c] 25, .own (.slice A L.length c) 31 2 L.length (scs L), .row g6 #[.bool false] 4, .row g5 #[.int .i64 stop] 3])) pre W W' row h.2.2.1 hg hr, Nat.le_trans h.2.2.2 hg.size⟩⟩
      · exact ⟨pre, x, hpx, .inr h⟩)
    ⟨HSw, by simp, Lib.hid (fun j h => absurd h (by simp))⟩
    (fun x a' W => ∃ g9, w7.heap.size + 2 ≤ g9 ∧ W.heap[g9]? = some (.cells (spv x) 31 (0, 0)) ∧ a' = { tmps := (((#[20] : Array Tmp).zip (pkE x)).foldl (fun t (p, v) => t.setIfInBounds p v) a0.tmps).setIfInBounds 10 (.pointer (some ⟨g9, 0, none⟩)), defers := [] })
    (fun x a' _ W W' row hs hg hr => by
      obtain ⟨g9, h1, h2, h3⟩ := hs
      refine ⟨g9, h1, (hg.block g9 (Array.getElem?_eq_some_iff.1 h2).1 fun e => ?_).trans h2, h3⟩
      obtain ⟨_, o, ho, hco⟩ := hr g9 e.symm
      rw [h2] at ho
      injection ho with ho
      subst ho
      cases hco) ?assign ?body ?done ?stop
  case assign =>
    rintro li pre x W K ⟨HSq, hsz, hpre⟩ hK
    refine region_round (by rintro ⟨_, _, h⟩; exact h) (by kernel_rfl) ?_
    rw [pkA_eq, ha0]
    simp only [List.setIfInBounds_toArray, List.set_cons_succ, List.set_cons_zero]
    go_wp2_with (first | refine wl_alx rfl 31 rfl #[.int .i64 0, .int .i64 0] (by kernel_rfl) ?_ | refine wl_store_row rfl 31 _ _ rfl W.heap.size rfl 31 #[.int .i64 0, .int .i64 0] (spv x) rfl (heap_alloc_new W _) (ndS x) rfl (spv_one _) ?_)
    have hnew := heap_alloc_new W (.cells #[.int .i64 0, .int .i64 0] 31)
    refine hK _ _ (((KeepsOthers.alloc W _).trans (keeps_setRow hnew)).from _) ((keepsBut_below ((Below.refl _ W).alloc (Nat.le_refl _) _) hsz).trans (keepsBut_new _ _ (by omega) _)) ⟨((HSq.alloc _ _).setRow 0 rfl _).tail, by simp; omega, hpre⟩ ⟨W.heap.size, hsz, setRow_heap _ _ _ _ _ _ hnew, ?_⟩
    rw [pkA_eq, ha0]
    simp only [List.setIfInBounds_toArray, List.set_cons_succ, List.set_cons_zero]
  case body =>
    rintro li pre x a' W hl hr ⟨HSq, hsz, hpre⟩ ⟨g9, h9, hrow, rfl⟩ hlen
    have hpb : (pre.length : Int) < 49 := by omega
    have hkr : ∀ (W : World) (B : Nat), KeepsFrom B W W := fun W B => (keeps_below (Below.refl _ W)).from _
    refine wpIn_block ?_
    refine wpIn_seq ?_
    refine wpIn_seq ?_
    refine region_round (by rintro ⟨_, _, h⟩; exact h) (by kernel_rfl) ?_
    rw [pkA_eq, ha0]
    simp only [List.setIfInBounds_toArray, List.set_cons_succ, List.set_cons_zero]
    have c8 := (row_cell (HSq.row 0 rfl) 0).trans (show (#[Value.int .i64 (pre.length : Int)] : Array Value)[0]? = some (.int .i64 (pre.length : Int)) from rfl)
    have c5 := (row_cell (HSq.row 4 rfl) 0).trans (show (#[Value.int .i64 stop] : Array Value)[0]? = some (.int .i64 stop) from rfl)
    by_cases hst : (pre.length : Int) = stop
    · have hst2 : ((pre.length : Int) == stop) = true := by simp [hst]
      have HST2 := Lib.hid hst
      clear hst
      go_wp2
      refine wpIn_cond_true rfl ?_
      refine wpIn_exit ?_
      exact ⟨hkr _ _, ⟨pre, x, rfl, .inl ⟨rfl, HST2.out, HSq, hsz⟩⟩⟩
    · have hst2 : ((pre.length : Int) == stop) = false := by simp [hst]
      clear hst
      have HSqr : Sep w.heap.size w W [.row g8 #[.int .i64 (pre.length : Int)] 3, .row g7 #[.slice A L.length c] 25, .own (.slice A L.length c) 31 2 L.length (scs L), .row g6 #[.bool false] 4, .row g5 #[.int .i64 stop] 3] ∧ W.heap[g9]? = some (.cells #[.int .i64 (x.1 : Int), .int .i64 (x.2 : Int)] 31 (0, 0)) := ⟨HSq, hrow⟩
      by_cases hlt : pre.length < L.length
      · obtain ⟨y1, y2, hy⟩ : ∃ y1 y2, L.getD pre.length (0, 0) = (y1, y2) := ⟨_, _, rfl⟩
        have hyL : L[pre.length]? = some (y1, y2) := by
          simp only [List.getD, List.getElem?_eq_getElem hlt, Option.getD_some] at hy
          rw [List.getElem?_eq_getElem hlt, hy]
        obtain ⟨g, rfl⟩ := Ow.addr (HSq.own 2 rfl) (by omega)
        have HLN := Lib.hid (fun (W' : World) (h : Rd W' (.slice (some ⟨g, 0, none⟩) L.length c) L.length 2 (scs L)) => load_nd h rfl pre.length hlt (y1, y2) hy)
        rw [Nat.zero_add] at HLN
        have hd1 : decide (L.length ≤ pre.length) = false := decide_eq_false (by omega)
        have hd2 : (pre.length : Int) < (L.length : Int) := by omega
        have HYL := Lib.hid hyL
        have HPRE := Lib.hid hlt
        clear hy hyL
        go_wp2
        refine wpIn_cond_false rfl ?_
        refine wpIn_skip ?_
        refine wpIn_seq ?_
        refine wpIn_seq ?_
        by_cases hxy : x = (y1, y2)
        · have E1 := Lib.hid (show ((x.1 : Int) == (y1 : Int)) = true by simp [hxy])
          have E2 := Lib.hid (show ((x.2 : Int) == (y2 : Int)) = true by simp [hxy])
          have HXE := Lib.hid (show some x = some (y1, y2) by rw [hxy])
          clear hxy
          refine Cop.region_ordR (by rintro ⟨_, _, h⟩; exact h) (by kernel_rfl) (fun w' => Sep w.heap.size w w' [.row g8 #[.int .i64 (pre.length : Int)] 3, .row g7 #[.slice (some ⟨g, 0, none⟩) L.length c] 25, .own (.slice (some ⟨g, 0, none⟩) L.length c) 31 2 L.length (scs L), .row g6 #[.bool false] 4, .row g5 #[.int .i64 stop] 3] ∧ w'.heap[g9]? = some (.cells #[.int .i64 (x.1 : Int), .int .i64 (x.2 : Int)] 31 (0, 0))) 11 (.take 0 (.take 1 (.take 2 (.take 3 (.take 4 (.take 5 (.take 6 (.take 7 (.take 8 (.take 9 (.take 10 (.take 11 Cop.Ord.fin)))))))))))) (by kernel_rfl) (by kernel_rfl) (fun _ _ d _ _ h => by cases d <;> exact h) ?_
          intro wa hda
          have HSa : Sep w.heap.size w wa [.row g8 #[.int .i64 (pre.length : Int)] 3, .row g7 #[.slice (some ⟨g, 0, none⟩) L.length c] 25, .own (.slice (some ⟨g, 0, none⟩) L.length c) 31 2 L.length (scs L), .row g6 #[.bool false] 4, .row g5 #[.int .i64 stop] 3] ∧ wa.heap[g9]? = some (.cells #[.int .i64 (x.1 : Int), .int .i64 (x.2 : Int)] 31 (0, 0)) := ⟨HSqr.1.keep hda, kept_row hda HSqr.2⟩
          (repeat (first | (refine Cop.og_skip rfl rfl HSa _ (by (simp only [Act.put, List.setIfInBounds_toArray, List.set_cons_succ, List.set_cons_zero]; rfl)) ?_) | (refine Cop.og_ld rfl rfl HSa 31 _ rfl (.pointer (some ⟨g9, 0, none⟩)) rfl (.agg #[.int .i64 (x.1 : Int), .int .i64 (x.2 : Int)]) (fun w9 h9 => load_row h9.2 31 Try.underlying31 rfl (ndS x)) _ (by (simp only [Act.put, List.setIfInBounds_toArray, List.set_cons_succ, List.set_cons_zero]; rfl)) ?_) | (refine Cop.og_ld rfl rfl HSa 31 _ rfl (.pointer (some ⟨g, pre.length * 2, none⟩)) rfl (.agg #[.int .i64 (y1 : Int), .int .i64 (y2 : Int)]) (fun w9 h9 => HLN.out w9 (h9.1.own 2 rfl).rd) _ (by (simp only [Act.put, List.setIfInBounds_toArray, List.set_cons_succ, List.set_cons_zero]; rfl)) ?_) | (refine Cop.og_take rfl rfl HSa ?_; apply Exists.intro; refine ⟨fun w9 h9 => ?_, _, by (simp only [Act.put, List.setIfInBounds_toArray, List.set_cons_succ, List.set_cons_zero]; rfl), ?_⟩; (have c8 := (row_cell (h9.1.row 0 rfl) 0).trans (show (#[Value.int .i64 (pre.length : Int)] : Array Value)[0]? = some (.int .i64 (pre.length : Int)) from rfl); have c7 := (row_cell (h9.1.row 1 rfl) 0).trans (show (#[Value.slice (some ⟨g, 0, none⟩) L.length c] : Array Value)[0]? = some (.slice (some ⟨g, 0, none⟩) L.length c) from rfl); have e1 := E1.out; have e2 := E2.out; go_simp; with_reducible rfl))))
          refine og_fin ?_
          refine wpIn_cond_false rfl ?_
          refine wpIn_skip ?_
          refine region_round (by rintro ⟨_, _, h⟩; exact h) (by kernel_rfl) ?_
          have c8 := (row_cell (HSa.1.row 0 rfl) 0).trans (show (#[Value.int .i64 (pre.length : Int)] : Array Value)[0]? = some (.int .i64 (pre.length : Int)) from rfl)
          go_wp2_with (first | refine wl_stx HSa.1 0 rfl rfl 3 _ _ rfl (by kernel_rfl) 0 (by simp) (y := .int .i64 ((pre.length : Int) + 1)) rfl rfl rfl rfl ?_)
          intro HSb
          go_wp2_with fail
          refine ⟨((keeps_below hda).trans (keeps_setCell (HSa.1.row 0 rfl))).from _, (keepsBut_below hda hsz).trans (keepsBut_setCell _ _ _ _ _), ?_, ?_, ?_⟩
          · have e : ((pre ++ [x]).length : Int) = (pre.length : Int) + 1 := by simp
            rw [e]
            exact HSb
          · have := hda.size
            simp [World.setCell]; omega
          · exact Lib.hid (fun j hj => by
              rw [List.length_append] at hj
              rcases Nat.lt_or_ge j pre.length with h | h
              · rw [List.getElem?_append_left h]; exact hpre.out j h
              · have : j = pre.length := by simp at hj; omega
                subst this
                rw [HYL.out, ← HXE.out]; simp)
        · have HNE := Lib.hid hxy
          by_cases hx1 : x.1 = y1
          · have hx2 : ¬ x.2 = y2 := fun h => hxy (Prod.ext hx1 h)
            have E1 := Lib.hid (show ((x.1 : Int) == (y1 : Int)) = true by simp; omega)
            have E2 := Lib.hid (show ((x.2 : Int) == (y2 : Int)) = false by simp; omega)
            clear hx1 hx2 hxy
            refine Cop.region_ordR (by rintro ⟨_, _, h⟩; exact h) (by kernel_rfl) (fun w' => Sep w.heap.size w w' [.row g8 #[.int .i64 (pre.length : Int)] 3, .row g7 #[.slice (some ⟨g, 0, none⟩) L.length c] 25, .own (.slice (some ⟨g, 0, none⟩) L.length c) 31 2 L.length (scs L), .row g6 #[.bool false] 4, .row g5 #[.int .i64 stop] 3] ∧ w'.heap[g9]? = some (.cells #[.int .i64 (x.1 : Int), .int .i64 (x.2 : Int)] 31 (0, 0))) 11 (.take 0 (.take 1 (.take 2 (.take 3 (.take 4 (.take 5 (.take 6 (.take 7 (.take 8 (.take 9 (.take 10 (.take 11 Cop.Ord.fin)))))))))))) (by kernel_rfl) (by kernel_rfl) (fun _ _ d _ _ h => by cases d <;> exact h) ?_
            intro wa hda
            have HSa : Sep w.heap.size w wa [.row g8 #[.int .i64 (pre.length : Int)] 3, .row g7 #[.slice (some ⟨g, 0, none⟩) L.length c] 25, .own (.slice (some ⟨g, 0, none⟩) L.length c) 31 2 L.length (scs L), .row g6 #[.bool false] 4, .row g5 #[.int .i64 stop] 3] ∧ wa.heap[g9]? = some (.cells #[.int .i64 (x.1 : Int), .int .i64 (x.2 : Int)] 31 (0, 0)) := ⟨HSqr.1.keep hda, kept_row hda HSqr.2⟩
            (repeat (first | (refine Cop.og_skip rfl rfl HSa _ (by (simp only [Act.put, List.setIfInBounds_toArray, List.set_cons_succ, List.set_cons_zero]; rfl)) ?_) | (refine Cop.og_ld rfl rfl HSa 31 _ rfl (.pointer (some ⟨g9, 0, none⟩)) rfl (.agg #[.int .i64 (x.1 : Int), .int .i64 (x.2 : Int)]) (fun w9 h9 => load_row h9.2 31 Try.underlying31 rfl (ndS x)) _ (by (simp only [Act.put, List.setIfInBounds_toArray, List.set_cons_succ, List.set_cons_zero]; rfl)) ?_) | (refine Cop.og_ld rfl rfl HSa 31 _ rfl (.pointer (some ⟨g, pre.length * 2, none⟩)) rfl (.agg #[.int .i64 (y1 : Int), .int .i64 (y2 : Int)]) (fun w9 h9 => HLN.out w9 (h9.1.own 2 rfl).rd) _ (by (simp only [Act.put, List.setIfInBounds_toArray, List.set_cons_succ, List.set_cons_zero]; rfl)) ?_) | (refine Cop.og_take rfl rfl HSa ?_; apply Exists.intro; refine ⟨fun w9 h9 => ?_, _, by (simp only [Act.put, List.setIfInBounds_toArray, List.set_cons_succ, List.set_cons_zero]; rfl), ?_⟩; (have c8 := (row_cell (h9.1.row 0 rfl) 0).trans (show (#[Value.int .i64 (pre.length : Int)] : Array Value)[0]? = some (.int .i64 (pre.length : Int)) from rfl); have c7 := (row_cell (h9.1.row 1 rfl) 0).trans (show (#[Value.slice (some ⟨g, 0, none⟩) L.length c] : Array Value)[0]? = some (.slice (some ⟨g, 0, none⟩) L.length c) from rfl); have e1 := E1.out; have e2 := E2.out; go_simp; with_reducible rfl))))
            refine og_fin ?_
            refine wpIn_cond_true rfl ?_
            refine wpIn_seq ?_
            refine region_round (by rintro ⟨_, _, h⟩; exact h) (by kernel_rfl) ?_
            go_wp2_with (first | refine wl_stx HSa.1 3 rfl rfl 4 _ _ rfl (by kernel_rfl) 0 (by simp) (y := .bool false) rfl rfl rfl rfl ?_)
            intro HSb
            go_wp2_with fail
            refine wpIn_ret ?_
            exact ⟨((keeps_below hda).trans (keeps_setCell (HSa.1.row 3 rfl))).from _, ⟨pre, x, rfl, .inr ⟨rfl, fun ⟨t, ht⟩ => by
                have h2 := congrArg (fun l : List (Nat × Nat) => l[pre.length]?) ht
                simp only [HYL.out, List.append_assoc, List.getElem?_append_right (Nat.le_refl _), Nat.sub_self] at h2
                simp at h2
                exact HNE.out h2⟩⟩⟩
          · have E1 := Lib.hid (show ((x.1 : Int) == (y1 : Int)) = false by simp; omega)
            clear hx1 hxy
            refine Cop.region_ordR (by rintro ⟨_, _, h⟩; exact h) (by kernel_rfl) (fun w' => Sep w.heap.size w w' [.row g8 #[.int .i64 (pre.length : Int)] 3, .row g7 #[.slice (some ⟨g, 0, none⟩) L.length c] 25, .own (.slice (some ⟨g, 0, none⟩) L.length c) 31 2 L.length (scs L), .row g6 #[.bool false] 4, .row g5 #[.int .i64 stop] 3] ∧ w'.heap[g9]? = some (.cells #[.int .i64 (x.1 : Int), .int .i64 (x.2 : Int)] 31 (0, 0))) 11 (.take 0 (.take 1 (.take 2 (.take 3 (.take 4 (.take 5 (.take 6 (.take 7 (.take 8 (.take 9 (.take 10 (.take 11 Cop.Ord.fin)))))))))))) (by kernel_rfl) (by kernel_rfl) (fun _ _ d _ _ h => by cases d <;> exact h) ?_
            intro wa hda
            have HSa : Sep w.heap.size w wa [.row g8 #[.int .i64 (pre.length : Int)] 3, .row g7 #[.slice (some ⟨g, 0, none⟩) L.length c] 25, .own (.slice (some ⟨g, 0, none⟩) L.length c) 31 2 L.length (scs L), .row g6 #[.bool false] 4, .row g5 #[.int .i64 stop] 3] ∧ wa.heap[g9]? = some (.cells #[.int .i64 (x.1 : Int), .int .i64 (x.2 : Int)] 31 (0, 0)) := ⟨HSqr.1.keep hda, kept_row hda HSqr.2⟩
            (repeat (first | (refine Cop.og_skip rfl rfl HSa _ (by (simp only [Act.put, List.setIfInBounds_toArray, List.set_cons_succ, List.set_cons_zero]; rfl)) ?_) | (refine Cop.og_ld rfl rfl HSa 31 _ rfl (.pointer (some ⟨g9, 0, none⟩)) rfl (.agg #[.int .i64 (x.1 : Int), .int .i64 (x.2 : Int)]) (fun w9 h9 => load_row h9.2 31 Try.underlying31 rfl (ndS x)) _ (by (simp only [Act.put, List.setIfInBounds_toArray, List.set_cons_succ, List.set_cons_zero]; rfl)) ?_) | (refine Cop.og_ld rfl rfl HSa 31 _ rfl (.pointer (some ⟨g, pre.length * 2, none⟩)) rfl (.agg #[.int .i64 (y1 : Int), .int .i64 (y2 : Int)]) (fun w9 h9 => HLN.out w9 (h9.1.own 2 rfl).rd) _ (by (simp only [Act.put, List.setIfInBounds_toArray, List.set_cons_succ, List.set_cons_zero]; rfl)) ?_) | (refine Cop.og_take rfl rfl HSa ?_; apply Exists.intro; refine ⟨fun w9 h9 => ?_, _, by (simp only [Act.put, List.setIfInBounds_toArray, List.set_cons_succ, List.set_cons_zero]; rfl), ?_⟩; (have c8 := (row_cell (h9.1.row 0 rfl) 0).trans (show (#[Value.int .i64 (pre.length : Int)] : Array Value)[0]? = some (.int .i64 (pre.length : Int)) from rfl); have c7 := (row_cell (h9.1.row 1 rfl) 0).trans (show (#[Value.slice (some ⟨g, 0, none⟩) L.length c] : Array Value)[0]? = some (.slice (some ⟨g, 0, none⟩) L.length c) from rfl); have e1 := E1.out; go_simp; with_reducible rfl))))
            refine og_fin ?_
            refine wpIn_cond_true rfl ?_
            refine wpIn_seq ?_
            refine region_round (by rintro ⟨_, _, h⟩; exact h) (by kernel_rfl) ?_
            go_wp2_with (first | refine wl_stx HSa.1 3 rfl rfl 4 _ _ rfl (by kernel_rfl) 0 (by simp) (y := .bool false) rfl rfl rfl rfl ?_)
            intro HSb
            go_wp2_with fail
            refine wpIn_ret ?_
            exact ⟨((keeps_below hda).trans (keeps_setCell (HSa.1.row 3 rfl))).from _, ⟨pre, x, rfl, .inr ⟨rfl, fun ⟨t, ht⟩ => by
                have h2 := congrArg (fun l : List (Nat × Nat) => l[pre.length]?) ht
                simp only [HYL.out, List.append_assoc, List.getElem?_append_right (Nat.le_refl _), Nat.sub_self] at h2
                simp at h2
                exact HNE.out h2⟩⟩⟩
      · have hd1 : decide (L.length ≤ pre.length) = true := decide_eq_true (by omega)
        have hd2 : ¬ (pre.length : Int) < (L.length : Int) := by omega
        have HLT := Lib.hid hlt
        clear hlt
        go_wp2
        refine wpIn_cond_false rfl ?_
        refine wpIn_skip ?_
        refine wpIn_seq ?_
        refine wpIn_seq ?_
        refine Cop.region_ordR (by rintro ⟨_, _, h⟩; exact h) (by kernel_rfl) (fun w' => Sep w.heap.size w w' [.row g8 #[.int .i64 (pre.length : Int)] 3, .row g7 #[.slice A L.length c] 25, .own (.slice A L.length c) 31 2 L.length (scs L), .row g6 #[.bool false] 4, .row g5 #[.int .i64 stop] 3] ∧ w'.heap[g9]? = some (.cells #[.int .i64 (x.1 : Int), .int .i64 (x.2 : Int)] 31 (0, 0))) 11 (.take 0 (.take 1 (.take 2 (.take 3 (.take 4 (.take 5 (.take 6 (.take 7 (.take 8 (.take 9 (.take 10 (.take 11 Cop.Ord.fin)))))))))))) (by kernel_rfl) (by kernel_rfl) (fun _ _ d _ _ h => by cases d <;> exact h) ?_
        intro wa hda
        have HSa : Sep w.heap.size w wa [.row g8 #[.int .i64 (pre.length : Int)] 3, .row g7 #[.slice A L.length c] 25, .own (.slice A L.length c) 31 2 L.length (scs L), .row g6 #[.bool false] 4, .row g5 #[.int .i64 stop] 3] ∧ wa.heap[g9]? = some (.cells #[.int .i64 (x.1 : Int), .int .i64 (x.2 : Int)] 31 (0, 0)) := ⟨HSqr.1.keep hda, kept_row hda HSqr.2⟩
        (repeat (first | (refine Cop.og_skip rfl rfl HSa _ (by (simp only [Act.put, List.setIfInBounds_toArray, List.set_cons_succ, List.set_cons_zero]; rfl)) ?_) | (refine Cop.og_ld rfl rfl HSa 31 _ rfl (.pointer (some ⟨g9, 0, none⟩)) rfl (.agg #[.int .i64 (x.1 : Int), .int .i64 (x.2 : Int)]) (fun w9 h9 => load_row h9.2 31 Try.underlying31 rfl (ndS x)) _ (by (simp only [Act.put, List.setIfInBounds_toArray, List.set_cons_succ, List.set_cons_zero]; rfl)) ?_) | (refine Cop.og_take rfl rfl HSa ?_; apply Exists.intro; refine ⟨fun w9 h9 => ?_, _, by (simp only [Act.put, List.setIfInBounds_toArray, List.set_cons_succ, List.set_cons_zero]; rfl), ?_⟩; (have c8 := (row_cell (h9.1.row 0 rfl) 0).trans (show (#[Value.int .i64 (pre.length : Int)] : Array Value)[0]? = some (.int .i64 (pre.length : Int)) from rfl); have c7 := (row_cell (h9.1.row 1 rfl) 0).trans (show (#[Value.slice A L.length c] : Array Value)[0]? = some (.slice A L.length c) from rfl); go_simp; with_reducible rfl))))
        refine og_fin ?_
        refine wpIn_cond_true rfl ?_
        refine wpIn_seq ?_
        refine region_round (by rintro ⟨_, _, h⟩; exact h) (by kernel_rfl) ?_
        go_wp2_with (first | refine wl_stx HSa.1 3 rfl rfl 4 _ _ rfl (by kernel_rfl) 0 (by simp) (y := .bool false) rfl rfl rfl rfl ?_)
        intro HSb
        go_wp2_with fail
        refine wpIn_ret ?_
        exact ⟨((keeps_below hda).trans (keeps_setCell (HSa.1.row 3 rfl))).from _, ⟨pre, x, rfl, .inr ⟨rfl, fun ⟨t, ht⟩ => by
            have h2 := congrArg List.length ht
            simp at h2
            have := HLT.out
            omega⟩⟩⟩
  case done =>
    rintro D ys W hD hys ⟨HSq, _, _⟩ hK
    subst hys
    have c8 := (row_cell (HSq.row 0 rfl) 0).trans (show (#[Value.int .i64 (ys.length : Int)] : Array Value)[0]? = some (.int .i64 (ys.length : Int)) from rfl)
    have c7 := (row_cell (HSq.row 1 rfl) 0).trans (show (#[Value.slice A ys.length c] : Array Value)[0]? = some (.slice A ys.length c) from rfl)
    have c5 := (row_cell (HSq.row 4 rfl) 0).trans (show (#[Value.int .i64 stop] : Array Value)[0]? = some (.int .i64 stop) from rfl)
    have hgD : D ≠ g6 := fun e => by
      have := HSq.row 3 rfl
      rw [← e, hK] at this
      cases this
    have hDw : w.heap.size ≤ D := by simp at hD; omega
    have HHD := Lib.hid hK
    rw [ha0]
    clear hK
    go_wp2_with (first | refine wl_stx HSq 3 rfl rfl 4 _ _ rfl (by kernel_rfl) 0 (by simp) (y := .bool true) rfl rfl rfl rfl ?_)
    intro HS9
    go_wp2_with fail
    exact ret_cellD rfl D rfl ((Below.heap_setCell _ _ _ _ (fun e => hgD e)).trans HHD.out) g6 rfl _ 4 (HS9.row 3 rfl) (.bool true) rfl Try.isAgg4 ⟨rfl, HS9.hb.trans (belowK_b (n₀ := w.heap.size) (w := w) (Nat.le_refl _) _ D _ _ hDw ((Below.heap_setCell _ _ _ _ (fun e => hgD e)).trans HHD.out) rfl rfl)⟩
  case stop =>
    rintro D cd px W hD ⟨t, ht⟩ hix hK
    obtain ⟨pre, x, rfl, ⟨rfl, hst, HSq, hsz⟩ | ⟨rfl, hno⟩⟩ := hix
    · have c8 := (row_cell (HSq.row 0 rfl) 0).trans (show (#[Value.int .i64 (pre.length : Int)] : Array Value)[0]? = some (.int .i64 (pre.length : Int)) from rfl)
      have c7 := (row_cell (HSq.row 1 rfl) 0).trans (show (#[Value.slice A L.length c] : Array Value)[0]? = some (.slice A L.length c) from rfl)
      have c5 := (row_cell (HSq.row 4 rfl) 0).trans (show (#[Value.int .i64 stop] : Array Value)[0]? = some (.int .i64 stop) from rfl)
      have hgD : D ≠ g6 := fun e => by
        have := HSq.row 3 rfl
        rw [← e, hK] at this
        cases this
      have hDw : w.heap.size ≤ D := by simp at hD; omega
      have HHD := Lib.hid hK
      rw [ha0]
      clear hK
      refine wpIn_exit ?_
      have hst2 : ((pre.length : Int) == stop) = true := by simp [hst]
      by_cases hpl : pre.length = L.length
      · have hpl2 : ((pre.length : Int) == (L.length : Int)) = true := by simp [hpl]
        clear hst hpl
        go_wp2_with (first | refine wl_stx HSq 3 rfl rfl 4 _ _ rfl (by kernel_rfl) 0 (by simp) (y := .bool true) rfl rfl rfl rfl ?_)
        intro HS9
        go_wp2_with fail
        exact ret_cellD rfl D rfl ((Below.heap_setCell _ _ _ _ (fun e => hgD e)).trans HHD.out) g6 rfl _ 4 (HS9.row 3 rfl) (.bool true) rfl Try.isAgg4 ⟨rfl, HS9.hb.trans (belowK_b (n₀ := w.heap.size) (w := w) (Nat.le_refl _) _ D _ _ hDw ((Below.heap_setCell _ _ _ _ (fun e => hgD e)).trans HHD.out) rfl rfl)⟩
      · have hpl2 : ((pre.length : Int) == (L.length : Int)) = false := by simp; omega
        clear hst hpl
        go_wp2_with (first | refine wl_stx HSq 3 rfl rfl 4 _ _ rfl (by kernel_rfl) 0 (by simp) (y := .bool true) rfl rfl rfl rfl ?_)
        intro HS9
        go_wp2_with fail
        exact ret_cellD rfl D rfl ((Below.heap_setCell _ _ _ _ (fun e => hgD e)).trans HHD.out) g6 rfl _ 4 (HS9.row 3 rfl) (.bool true) rfl Try.isAgg4 ⟨rfl, HS9.hb.trans (belowK_b (n₀ := w.heap.size) (w := w) (Nat.le_refl _) _ D _ _ hDw ((Below.heap_setCell _ _ _ _ (fun e => hgD e)).trans HHD.out) rfl rfl)⟩
    · exact absurd ⟨t, ht⟩ hno
theorem nodeUps_holds : Rows.NodeUpsSaid := nodeUps.row_of_walk fun H enc W base v0 v1 v2 d0 d1 d2 p0 p1 p2 h0 k0 h1 k1 h2 k2 _ => by
  obtain ⟨a, rfl, _, _, _⟩ := Go.ChangeShapes.open_int Try.underlying3 k0 h0
  obtain ⟨b, rfl, _, _, hw⟩ := Go.ChangeShapes.open_int Try.underlying3 k1 h1
  obtain ⟨c, rfl, _, _, _⟩ := Go.ChangeShapes.open_int Try.underlying3 k2 h2
  simp [Lit.wf, IntKind.min, IntKind.max, IntKind.signed, IntKind.bits] at hw
  exact nodeUps_walk a b c W (by omega) (by omega)
#print axioms nodeUps_holds
end Go.Proofs.Ytcjnheabkdalbaa
