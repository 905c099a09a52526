/- Compact ranges that no call made; the empty range. -/
import Derived.Test.YtlhebogbbkjahaaDoorRf
import Derived.Test.YtlhebogbbkjahaaDoorOh
namespace Go.Proofs.YtlhebogbbkjahaaDoor
open Go.RowKit Cop
set_option linter.unusedVariables false
set_option linter.unusedSimpArgs false
section
variable {P : Program} {w0 w : World} {B : Nat} {R : List Pc} {o : Oper} {a : Act}
/-- A scalar that is boxed; a scalar's block that is made. -/
theorem wlc_bx {ops : Array Oper} {rest : List Oper} {Q : Exit → Act → World → Prop} (HS : Sep B w0 w R) (hgd : o.guard = none) (ty : TypeId) (x : Operand) (hop : o.op = .box ty x) (v : Value) (hv : v.cells = #[v]) (hx : a.eval x = v)
    (h : ∀ g w1, Sep B w0 w1 (.row g #[v] ty :: R) → wpList P ops Q rest (a.put o.dst (.pointer (some ⟨g, 0, none⟩))) w1) : wpList P ops Q (o :: rest) a w := by
  refine wpList_plain hgd fun K hK => ?_
  refine ow_val (.pointer (some ⟨w.heap.size, 0, none⟩)) (w.alloc (.cells #[v] ty)) ?_ (hK _ _ (h _ _ (HS.alloc #[v] ty)))
  simp only [execOp, hop, hx]
  simp [Instr.box, Result.andThen, newVar, newRow, hv]
theorem wlc_al {ops : Array Oper} {rest : List Oper} {Q : Exit → Act → World → Prop} (HS : Sep B w0 w R) (hgd : o.guard = none) (ty : TypeId) (hop : o.op = .alloc ty) (v : Value) (hv : v.cells = #[v]) (hz : (P.info? ty).map (·.zero) = some (some v))
    (h : ∀ g w1, Sep B w0 w1 (.row g #[v] ty :: R) → wpList P ops Q rest (a.put o.dst (.pointer (some ⟨g, 0, none⟩))) w1) : wpList P ops Q (o :: rest) a w := by
  refine wpList_plain hgd fun K hK => ?_
  obtain ⟨i, hi, hz⟩ := Option.map_eq_some_iff.1 hz
  have hzz : (zeroValue ty).run P w = .ok v w := by simp [zeroValue, typeInfo, hi, hz]
  refine ow_val (.pointer (some ⟨w.heap.size, 0, none⟩)) (w.alloc (.cells #[v] ty)) ?_ (hK _ _ (h _ _ (HS.alloc #[v] ty)))
  simp only [execOp, hop]
  simp [Instr.alloc, Sem.run_bind, hzz, Result.andThen, newVar, newRow, hv]
/-- A guarded load. -/
theorem wl_ldxg {ops : Array Oper} {rest : List Oper} {Q : Exit → Act → World → Prop} (ty : TypeId) (x : Operand) (hop : o.op = .load ty x) (p : Value) (hx : a.eval x = p) (v : Value) (hl : (Instr.loadAt ty p).run P w = .ok v w) (hw : Region.wanted o (yielded ops a.tmps) = true)
    (h : wpList P ops Q rest (a.put o.dst v) w) : wpList P ops Q (o :: rest) a w := by
  refine BigFrame.wpList_want hw fun K hK => ow_val v w ?_ (hK _ _ h)
  simp only [execOp, hop, hx, Sem.run_bind, hl, Result.andThen_ok, Sem.run_pure]
end
/-- A loop's rounds, one by one. -/
theorem loop_hid {P : Program} {Q : Exit → Act → World → Prop} {a : Act} {w : World} {c : Code} (n : Nat) (h : ∀ N : Act → World → Prop, Hid (∀ a w, Code.rounds P c Q n a w → N a w) → c.wp P (Exit.then N Q) a w) : (Code.loop c).wp P Q a w :=
  wp_loop_rounds (n + 1) (h _ (Lib.hid fun _ _ h => h))
theorem rounds_hid {P : Program} {Q : Exit → Act → World → Prop} {a : Act} {w : World} {c : Code} (n : Nat) (h : ∀ N : Act → World → Prop, Hid (∀ a w, Code.rounds P c Q n a w → N a w) → c.wp P (Exit.then N Q) a w) : Code.rounds P c Q (n + 1) a w :=
  h _ (Lib.hid fun _ _ h => h)
theorem cell_lt {w : World} {a : Addr} {v : Value} (h : w.cell? a = some v) : a.block < w.heap.size := by
  unfold World.cell? at h
  split at h
  · rename_i hb; exact (Array.getElem?_eq_some_iff.1 hb).1
  · cases h
theorem ret_row_tmpM {F : Fence} {n : Nat} {P : Program} {fn : Func} {R : Ending → World → Prop} {a : Act} {w : World} {p q : Tmp} {ty : TypeId} (h : fn.results = #[.cell p ty, .tmp q]) (hd0 : a.defers = []) (g : Nat) (hp : a.tmps.getD p undef = .pointer (some ⟨g, 0, none⟩))
    (t : TypeId) (cs : Array Value) (fr : Nat × Nat) (d : TypeDesc) (hg : w.heap[g]? = some (.cells cs t fr)) (hu : P.underlying ty = some d) (hd : (match d with | .struct _ | .array _ _ => true | _ => false) = true) (hi : (P.info? ty).map (·.size) = some cs.size)
    (v : Value) (hv : a.tmps.getD q undef = v) (hR : R (.returned (.tuple #[.agg cs, v])) w) : bodyPostM F n P fn R .ret a w := by
  show LeavesInM F n P fn a.tmps R a.defers .returning w
  rw [hd0]
  have hld := run_loadVar_row (P := P) w g t ty cs fr d hg hu (by revert hd; cases d <;> simp) hi
  have hp2 : a.tmps[p]?.getD undef = .pointer (some ⟨g, 0, none⟩) := by rw [← hp]; simp
  have hv2 : a.tmps[q]?.getD undef = v := by rw [← hv]; simp
  refine ⟨.tuple #[.agg cs, v], ?_, hR⟩
  simp only [results, h]
  simp [Sem.run_bind, Result.andThen, hp2, asAddr, hld, hv2]
theorem dgz {l : List UInt8} (h : l.length = 32) : (Tryd.prog.info? 33).map (·.size) = some (bv l).size := by rw [bv_size, h]; kernel_rfl
/-- A range that no call made. -/
def NoR (w : World) (p : Option Addr) : Prop := p = none ∨ ∃ g, p = some ⟨g, 0, none⟩ ∧ w.heap[g]? = some (.cells #[.bool false, .int .i64 0, .int .i64 0, .slice none 0 0] 61 (0, 0))
theorem NoR.below {w w' : World} {p : Option Addr} (h : NoR w p) (hb : Below w.heap.size w w') : NoR w' p := by
  rcases h with rfl | ⟨g, rfl, hg⟩
  · exact .inl rfl
  · exact .inr ⟨g, rfl, kept_row hb hg⟩
theorem none_v (p : Option Addr) (w : World) (h : NoR w p) : Calls Tryd.prog 37 #[.pointer p] w fun e w' => e = .returned (.bool true) ∧ w' = w := by
  rcases h with rfl | ⟨g, rfl, hg⟩
  · go_enter Tryd.func37, Tryd.ntmps37
    go_wp2
    go_ret
    exact ⟨rfl, rfl⟩
  · have c0 : w.cell? ⟨g, 0, none⟩ = some (.bool false) := by rw [row_cell hg]; rfl
    clear hg
    go_enter Tryd.func37, Tryd.ntmps37
    go_wp2
    go_ret
    exact ⟨rfl, rfl⟩
/-- A range that New made. -/
theorem none_f (g : Nat) (w : World) (h : w.cell? ⟨g, 0, none⟩ = some (.bool true)) : Calls Tryd.prog 37 #[.pointer (some ⟨g, 0, none⟩)] w fun e w' => e = .returned (.bool false) ∧ w' = w := by
  go_enter Tryd.func37, Tryd.ntmps37
  go_wp2
  go_ret
  exact ⟨rfl, rfl⟩
theorem len_v (p : Option Addr) (w : World) (h : NoR w p) : Calls Tryd.prog 25 #[.pointer p] w fun e w' => e = .returned (.int .i64 0) ∧ w' = w := by
  have HN := Lib.hid h
  clear h
  go_enter Tryd.func25, Tryd.ntmps25
  go_wp2_with fail
  refine (none_v p _ HN.out).mono ?_
  rintro e w2 ⟨rfl, rfl⟩
  go_wp2
  go_ret
  exact ⟨rfl, rfl⟩
theorem clone_v (p : Option Addr) (w : World) (h : NoR w p) : Calls Tryd.prog 18 #[.pointer p] w fun e w' => e = .returned (.pointer none) ∧ w' = w := by
  have HN := Lib.hid h
  clear h
  go_enter Tryd.func18, Tryd.ntmps18
  go_wp2_with fail
  refine (none_v p _ HN.out).mono ?_
  rintro e w2 ⟨rfl, rfl⟩
  go_wp2
  go_ret
  exact ⟨rfl, rfl⟩
theorem bytes_v (p : Option Addr) (w : World) (h : NoR w p) : Calls Tryd.prog 26 #[.pointer p] w fun e w' => e = .returned (.slice none 0 0) ∧ w' = w := by
  have HN := Lib.hid h
  clear h
  go_enter Tryd.func26, Tryd.ntmps26
  go_wp2_with fail
  refine (none_v p _ HN.out).mono ?_
  rintro e w2 ⟨rfl, rfl⟩
  go_wp2
  go_ret
  exact ⟨rfl, rfl⟩
theorem all_v (p : Option Addr) (w : World) : Calls Tryd.prog 10 #[.pointer p] w fun e w' => e = .returned (.func (.func 36) #[] #[.pointer (some ⟨w.heap.size, 0, none⟩)]) ∧ w' = w.alloc (.cells #[.pointer p] 23) := by
  go_enter Tryd.func10, Tryd.ntmps10
  go_wp2
  go_ret
  exact ⟨rfl, rfl⟩
theorem all1_v (y : Value) (b : Nat) (p : Option Addr) (w : World) (hc : w.cell? ⟨b, 0, none⟩ = some (.pointer p)) (h : NoR w p) : Calls Tryd.prog 36 #[y, .pointer (some ⟨b, 0, none⟩)] w fun e w' => (∃ v, e = .returned v) ∧ w' = w := by
  have HN := Lib.hid h
  clear h
  go_enter Tryd.func36, Tryd.ntmps36
  go_wp2_with fail
  refine (none_v p _ HN.out).mono ?_
  rintro e w2 ⟨rfl, rfl⟩
  go_wp2
  refine bodyPost_ret (results_none rfl _ _ _) rfl ?_
  exact ⟨⟨_, rfl⟩, rfl⟩
/-- Its iterator hands nothing over. -/
theorem all1_stops (n : Nat) (b : Nat) (p : Option Addr) (Kp : World → World → Prop) (w : World) (hc : w.cell? ⟨b, 0, none⟩ = some (.pointer p)) (h : NoR w p) :
    SeqStopsK Fence.wide n Tryd.prog 36 #[.pointer (some ⟨b, 0, none⟩)] (fun x : Empty => #[]) Kp (fun _ => True) (fun _ => True) 0 w := fun l J Jx W hW _ _ _ h0 => by
  have hlt : b < w.heap.size := (cell_lt hc)
  exact callsIn_wide.2 ((all1_v _ b p W ((World.cell?_of_block (w := w) (a := ⟨b, 0, none⟩) (hW.block b hlt)).trans hc) (h.below hW)).mono fun e W' h1 => ⟨h1.1, .inl ⟨[], trivial, by rw [h1.2]; exact h0⟩⟩)
theorem root_v (p : Option Addr) (w : World) (h : NoR w p) : Calls Tryd.prog 12 #[.pointer p] w fun e w' => e = .returned (.tuple #[.agg (bv (List.replicate 32 0)), .int .i64 1]) ∧ Below w.heap.size w w' := by
  have HS0 := Sep.start w
  have HN := Lib.hid h
  clear h
  refine calls_marks Tryd.func12 rfl ?_
  simp only [Tryd.ntmps12, List.size_toArray, List.length_cons, List.length_nil, Nat.reduceAdd, Nat.reduceSub, Array.replicate_succ, Array.replicate_zero, List.push_toArray, List.append_toArray, List.nil_append, List.cons_append]
  go_wp2_with (first | refine wl_al HS0 rfl 33 rfl (bv (List.replicate 32 0)) (by kernel_rfl) ?_)
  intro g1 w1 HS1
  have hn := HN.out.below HS1.hb
  clear HS0
  go_wp2_with fail
  refine (none_v p _ hn).mono ?_
  rintro e w2 ⟨rfl, rfl⟩
  go_wp2_with (first | refine wl_st HS1 0 rfl rfl 33 _ _ rfl rfl (cs := (bv (List.replicate 32 0))) rfl (dgz rfl) rfl (bv_one _) ?_)
  intro w3 HS3
  go_wp2
  exact ret_row_tmpM rfl rfl g1 rfl 33 (bv (List.replicate 32 0)) (0, 0) _ (HS3.row 0 rfl) Tryd.underlying33 rfl (dgz rfl) (.int .i64 1) rfl ⟨rfl, HS3.hb⟩
theorem span_v (p : Option Addr) (w : World) (h : NoR w p) : Calls Tryd.prog 24 #[.pointer p] w fun e w' => e = .returned (.agg #[.int .i64 0, .int .i64 0]) ∧ Below w.heap.size w w' := by
  have HS0 := Sep.start w
  have HN := Lib.hid h
  clear h
  go_enter Tryd.func24, Tryd.ntmps24
  go_wp2_with (first | refine wl_al HS0 rfl 26 rfl #[.int .i64 0, .int .i64 0] (by kernel_rfl) ?_)
  intro g1 w1 HS1
  have hn := HN.out.below HS1.hb
  clear HS0
  go_wp2_with fail
  refine (none_v p _ hn).mono ?_
  rintro e w2 ⟨rfl, rfl⟩
  go_wp2_with (first | refine wl_st HS1 0 rfl rfl 26 _ _ rfl rfl (cs := #[.int .i64 0, .int .i64 0]) rfl (by kernel_rfl) rfl (by simp [Value.oneCell']) ?_)
  intro w3 HS3
  go_wp2
  exact ret_row rfl rfl g1 rfl 26 #[.int .i64 0, .int .i64 0] (0, 0) _ (HS3.row 0 rfl) Tryd.underlying26 rfl (by kernel_rfl) ⟨rfl, HS3.hb⟩
set_option maxRecDepth 100000 in
theorem appendNode_v (p : Option Addr) (l : Int) (d : List UInt8) (hd : d.length = 32) (w : World) (h : NoR w p) : Calls Tryd.prog 17 #[.pointer p, .int .i64 l, .agg (bv d)] w fun e w' => e = .returned (.int .i64 1) ∧ Below w.heap.size w w' := by
  have HS0 := Sep.start w
  have HN := Lib.hid h
  clear h
  go_enter Tryd.func17, Tryd.ntmps17
  go_wp2_with (first | refine wl_bx HS0 rfl 33 _ rfl (bv d) rfl ?_)
  intro g1 w1 HS1
  have hn := HN.out.below HS1.hb
  clear HS0
  go_wp2_with fail
  refine (none_v p _ hn).mono ?_
  rintro e w2 ⟨rfl, rfl⟩
  go_wp2
  go_ret
  exact ⟨rfl, HS1.hb⟩
theorem append_v (p : Option Addr) (d : List UInt8) (hd : d.length = 32) (w : World) (h : NoR w p) : Calls Tryd.prog 21 #[.pointer p, .agg (bv d)] w fun e w' => e = .returned (.int .i64 1) ∧ Below w.heap.size w w' := by
  have HS0 := Sep.start w
  have HN := Lib.hid h
  clear h
  go_enter Tryd.func21, Tryd.ntmps21
  go_wp2_with (first | refine wl_bx HS0 rfl 33 _ rfl (bv d) rfl ?_)
  intro g1 w1 HS1
  have hn := HN.out.below HS1.hb
  clear HS0
  go_wp2_with (first | refine wl_ld HS1 0 rfl rfl 33 _ rfl rfl Tryd.underlying33 rfl (dgz hd) ?_)
  refine (appendNode_v p 0 d hd w1 hn).mono ?_
  rintro e w2 ⟨rfl, b2⟩
  have HS2 := HS1.keep b2
  go_wp2
  go_ret
  exact ⟨rfl, HS2.hb⟩
theorem merge_vl (p : Option Addr) (o : Value) (w : World) (h : NoR w p) : Calls Tryd.prog 22 #[.pointer p, o] w fun e w' => e = .returned (.int .i64 1) ∧ Below w.heap.size w w' := by
  have HS0 := Sep.start w
  have HN := Lib.hid h
  clear h
  refine calls_marks Tryd.func22 rfl ?_
  simp only [Tryd.ntmps22, List.size_toArray, List.length_cons, List.length_nil, Nat.reduceAdd, Nat.reduceSub, Array.replicate_succ, Array.replicate_zero, List.push_toArray, List.append_toArray, List.nil_append, List.cons_append]
  go_wp2_with (first | refine wlc_bx HS0 rfl 23 _ rfl (.pointer p) rfl rfl ?_)
  intro g1 w1 HS1
  have hn := HN.out.below HS1.hb
  have c1 : w1.cell? ⟨g1, 0, none⟩ = some (.pointer p) := by rw [row_cell (HS1.row 0 rfl)]; rfl
  clear HS0
  go_wp2_with fail
  refine (none_v p _ hn).mono ?_
  rintro e w2 ⟨rfl, rfl⟩
  go_wp2
  exact calls_marks_tmp rfl rfl ⟨rfl, HS1.hb⟩
theorem merge_vr (g : Nat) (p : Option Addr) (w : World) (hg : w.cell? ⟨g, 0, none⟩ = some (.bool true)) (h : NoR w p) : Calls Tryd.prog 22 #[.pointer (some ⟨g, 0, none⟩), .pointer p] w fun e w' => e = .returned (.int .i64 1) ∧ Below w.heap.size w w' := by
  have HS0 := Sep.start w
  have HN := Lib.hid h
  have hlt : g < w.heap.size := (cell_lt hg)
  have HG := Lib.hid hg
  clear h hg
  refine calls_marks Tryd.func22 rfl ?_
  simp only [Tryd.ntmps22, List.size_toArray, List.length_cons, List.length_nil, Nat.reduceAdd, Nat.reduceSub, Array.replicate_succ, Array.replicate_zero, List.push_toArray, List.append_toArray, List.nil_append, List.cons_append]
  go_wp2_with (first | refine wlc_bx HS0 rfl 23 _ rfl (.pointer (some ⟨g, 0, none⟩)) rfl rfl ?_)
  intro g1 w1 HS1
  have hn := HN.out.below HS1.hb
  have hg := (World.cell?_of_block (w := w) (a := ⟨g, 0, none⟩) (HS1.hb.block g hlt)).trans HG.out
  have HG1 := Lib.hid hg
  have c1 : w1.cell? ⟨g1, 0, none⟩ = some (.pointer (some ⟨g, 0, none⟩)) := by rw [row_cell (HS1.row 0 rfl)]; rfl
  clear HS0 hg
  go_wp2_with fail
  refine (none_f g _ HG1.out).mono ?_
  rintro e w2 ⟨rfl, rfl⟩
  go_wp2_with fail
  refine (none_v p _ hn).mono ?_
  rintro e w2 ⟨rfl, rfl⟩
  go_wp2
  exact calls_marks_tmp rfl rfl ⟨rfl, HS1.hb⟩
/-- The empty range at a leaf. -/
theorem new_c {B : Nat} {w0 w : World} {R : List Pc} (b : Int) (hb0 : 0 ≤ b) (hb : b ≤ 281474976710656) (HS : Sep B w0 w R) : Calls Tryd.prog 14 #[.int .i64 b] w fun e w' => ∃ g, e = .returned (.tuple #[.pointer (some ⟨g, 0, none⟩), .int .i64 0]) ∧ Sep B w0 w' (.row g #[.bool true, .int .i64 b, .int .i64 b, .slice none 0 0] 61 :: R) := by
  have h1 : decide (b < 0) = false := decide_eq_false (by omega)
  have h2 : decide ((281474976710656 : Int) < b) = false := decide_eq_false (by omega)
  go_enter Tryd.func14, Tryd.ntmps14
  go_wp2_with (first | refine wl_bx HS rfl 61 _ rfl #[.bool true, .int .i64 b, .int .i64 b, .slice none 0 0] rfl ?_)
  intro g1 w1 HS1
  go_wp2
  go_ret2
  exact ⟨g1, rfl, HS1⟩
end Go.Proofs.YtlhebogbbkjahaaDoor
