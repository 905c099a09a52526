/- Mirrors that no call made. -/
import Derived.Test.YtlhebogbbkjahaaDoorNn
namespace Go.Proofs.YtlhebogbbkjahaaDoor
open Go.RowKit Cop
set_option linter.unusedVariables false
set_option linter.unusedSimpArgs false
/-- A mirror that no call made. -/
def NoM (w : World) (p : Option Addr) : Prop := p = none ∨ ∃ g cs, p = some ⟨g, 0, none⟩ ∧ w.heap[g]? = some (.cells cs 83 (0, 0)) ∧ cs[36]? = some (.map none)
theorem NoM.below {w w' : World} {p : Option Addr} (h : NoM w p) (hb : Below w.heap.size w w') : NoM w' p := by
  rcases h with rfl | ⟨g, cs, rfl, hg, hc⟩
  · exact .inl rfl
  · exact .inr ⟨g, cs, rfl, kept_row hb hg, hc⟩
theorem map_nm (w : World) : (binOp .eql 81 (.map none) (.map none)).run Tryd.prog w = .ok (.bool true) w := by
  simp only [binOp, Op.equal]
  rw [show Op.maxDepth = 9999 + 1 from rfl]
  unfold Op.equalIn
  simp [Sem.run_bind, run_underlying Tryd.underlying81, Result.andThen_ok, Sem.run_pure]
theorem noneM_v (p : Option Addr) (w : World) (h : NoM w p) : Calls Tryd.prog 55 #[.pointer p] w fun e w' => e = .returned (.bool true) ∧ w' = w := by
  rcases h with rfl | ⟨g, cs, rfl, hg, hc⟩
  · go_enter Tryd.func55, Tryd.ntmps55
    go_wp2
    go_ret
    exact ⟨rfl, rfl⟩
  · have c0 : w.cell? ⟨g, 36, none⟩ = some (.map none) := by rw [row_cell hg]; exact hc
    have hmn := fun W => map_nm W
    clear hg hc
    go_enter Tryd.func55, Tryd.ntmps55
    go_wp2
    go_ret
    exact ⟨rfl, rfl⟩
theorem need_v (p : Option Addr) (w : World) : Calls Tryd.prog 30 #[.pointer p] w fun e w' => e = .returned (.func (.func 54) #[] #[.pointer (some ⟨w.heap.size, 0, none⟩)]) ∧ w' = w.alloc (.cells #[.pointer p] 77) := by
  go_enter Tryd.func30, Tryd.ntmps30
  go_wp2
  go_ret
  exact ⟨rfl, rfl⟩
theorem need1_v (l : Nat) (b : Nat) (p : Option Addr) (w : World) (hc : w.cell? ⟨b, 0, none⟩ = some (.pointer p)) (h : NoM w p) : Calls Tryd.prog 54 #[.func (.yield l) #[] #[], .pointer (some ⟨b, 0, none⟩)] w fun e w' => (∃ v, e = .returned v) ∧ ∃ o, w' = w.alloc o := by
  have hb : b < w.heap.size := cell_lt hc
  have HX := Lib.hid (h.below ((Below.refl _ w).alloc (Nat.le_refl _) (.cells #[.func (.yield l) #[] #[]] 127)))
  have HC := Lib.hid ((World.cell?_of_block (w := w) (w' := w.alloc (.cells #[.func (.yield l) #[] #[]] 127)) (a := ⟨b, 0, none⟩) (((Below.refl w.heap.size w).alloc (Nat.le_refl _) _).block b hb)).trans hc)
  have hOO : ∃ o, w.alloc (.cells #[.func (.yield l) #[] #[]] 127) = w.alloc o := ⟨_, rfl⟩
  have HOO := Lib.hid hOO
  clear h hc hOO
  refine calls_marks Tryd.func54 rfl ?_
  simp only [Tryd.ntmps54, List.size_toArray, List.length_cons, List.length_nil, Nat.reduceAdd, Nat.reduceSub, Array.replicate_succ, Array.replicate_zero, List.push_toArray, List.append_toArray, List.nil_append, List.cons_append]
  have c1 := HC.out
  clear HC
  go_wp2_with fail
  refine (noneM_v p _ HX.out).mono ?_
  rintro e w2 ⟨rfl, rfl⟩
  go_wp2
  exact ⟨_, results_none rfl _ _ _, ⟨_, rfl⟩, HOO.out⟩
theorem need1_stops (n : Nat) (b : Nat) (p : Option Addr) (Kp : World → World → Prop) (w : World) (hc : w.cell? ⟨b, 0, none⟩ = some (.pointer p)) (h : NoM w p) :
    SeqStopsK Fence.wide n Tryd.prog 54 #[.pointer (some ⟨b, 0, none⟩)] (fun x : Empty => #[]) Kp (fun _ => True) (fun _ => True) 0 w := fun l J Jx W hW hJ _ _ h0 => by
  have hlt : b < w.heap.size := cell_lt hc
  exact callsIn_wide.2 ((need1_v l b p W ((World.cell?_of_block (w := w) (a := ⟨b, 0, none⟩) (hW.block b hlt)).trans hc) (h.below hW)).mono fun e W' h1 => ⟨h1.1, .inl ⟨[], trivial, by obtain ⟨o, ho⟩ := h1.2; rw [ho]; exact hJ _ _ _ none h0 (World.grownBy_alloc _ _ none) (fun r e => by cases e)⟩⟩)
theorem known_v (p : Option Addr) (w : World) (h : NoM w p) : Calls Tryd.prog 32 #[.pointer p] w fun e w' => e = .returned (.tuple #[.int .i64 0, .int .i64 0]) ∧ w' = w := by
  have HN := Lib.hid h
  clear h
  go_enter Tryd.func32, Tryd.ntmps32
  go_wp2_with fail
  refine (noneM_v p _ (HN.out)).mono ?_
  rintro e w2 ⟨rfl, rfl⟩
  go_wp2
  go_ret2
  exact ⟨rfl, rfl⟩
theorem leafM_v (p : Option Addr) (i : Value) (w : World) (h : NoM w p) : Calls Tryd.prog 33 #[.pointer p, i] w fun e w' => e = .returned (.tuple #[.agg (bv (List.replicate 32 0)), .int .i64 1]) ∧ Below w.heap.size w w' := by
  have HS0 := Sep.start w
  have HN := Lib.hid h
  clear h
  go_enter Tryd.func33, Tryd.ntmps33
  go_wp2_with (first | refine wl_al HS0 rfl 33 rfl (bv (List.replicate 32 0)) (by kernel_rfl) ?_)
  intro g1 w1 HS1
  have hn := HN.out.below HS1.hb
  clear HS0
  go_wp2_with fail
  refine (noneM_v p _ (hn)).mono ?_
  rintro e w2 ⟨rfl, rfl⟩
  go_wp2_with (first | refine wl_st HS1 0 rfl rfl 33 _ _ rfl rfl (cs := (bv (List.replicate 32 0))) rfl (dgz rfl) rfl (bv_one _) ?_)
  intro w3 HS3
  go_wp2
  exact ret_row_tmp rfl rfl g1 rfl 33 (bv (List.replicate 32 0)) (0, 0) _ (HS3.row 0 rfl) Tryd.underlying33 rfl (dgz rfl) (.int .i64 1) rfl ⟨rfl, HS3.hb⟩
theorem tile4 (a b c d : Value) : (Tryd.prog.info? 74).map (·.size) = some (#[a, b, c, d] : Array Value).size := by rw [show (#[a, b, c, d] : Array Value).size = 4 from rfl]; kernel_rfl
theorem wrong_v (p : Option Addr) (t0 t1 t2 t3 : Value) (w : World) (h : NoM w p) : Calls Tryd.prog 58 #[.pointer p, .agg #[t0, t1, t2, t3]] w fun e w' => e = .returned (.tuple #[.int .i64 0, .int .i64 1]) ∧ Below w.heap.size w w' := by
  have HS0 := Sep.start w
  have HN := Lib.hid h
  clear h
  go_enter Tryd.func58, Tryd.ntmps58
  go_wp2_with (first | refine wl_bx HS0 rfl 74 _ rfl #[t0, t1, t2, t3] rfl ?_)
  intro g1 w1 HS1
  have hn := HN.out.below HS1.hb
  clear HS0
  go_wp2_with fail
  refine (noneM_v p _ (hn)).mono ?_
  rintro e w2 ⟨rfl, rfl⟩
  go_wp2
  go_ret2
  exact ⟨rfl, HS1.hb⟩
theorem feed_v (p : Option Addr) (t0 t1 t2 t3 b : Value) (w : World) (h : NoM w p) : Calls Tryd.prog 31 #[.pointer p, .agg #[t0, t1, t2, t3], b] w fun e w' => e = .returned (.tuple #[.bool false, .int .i64 1]) ∧ Below w.heap.size w w' := by
  have HS0 := Sep.start w
  have HN := Lib.hid h
  clear h
  go_enter Tryd.func31, Tryd.ntmps31
  go_wp2_with (first | refine wl_bx HS0 rfl 74 _ rfl #[t0, t1, t2, t3] rfl ?_)
  intro g1 w1 HS1
  have hn := HN.out.below HS1.hb
  clear HS0
  go_wp2_with (first | refine wl_ld HS1 0 rfl rfl 74 _ rfl rfl Tryd.underlying74 rfl (tile4 _ _ _ _) ?_)
  refine (wrong_v p t0 t1 t2 t3 w1 hn).mono ?_
  rintro e w2 ⟨rfl, b2⟩
  have HS2 := HS1.keep b2
  go_wp2
  go_ret2
  exact ⟨rfl, HS2.hb⟩
theorem tileM_v (p : Option Addr) (t0 t1 t2 t3 : Value) (w : World) (h : NoM w p) : Calls Tryd.prog 34 #[.pointer p, .agg #[t0, t1, t2, t3]] w fun e w' => e = .returned (.tuple #[.slice none 0 0, .int .i64 1]) ∧ Below w.heap.size w w' := by
  have HS0 := Sep.start w
  have HN := Lib.hid h
  clear h
  go_enter Tryd.func34, Tryd.ntmps34
  go_wp2_with (first | refine wl_bx HS0 rfl 74 _ rfl #[t0, t1, t2, t3] rfl ?_)
  intro g1 w1 HS1
  have hn := HN.out.below HS1.hb
  clear HS0
  go_wp2_with (first | refine wl_ld HS1 0 rfl rfl 74 _ rfl rfl Tryd.underlying74 rfl (tile4 _ _ _ _) ?_)
  refine (wrong_v p t0 t1 t2 t3 w1 hn).mono ?_
  rintro e w2 ⟨rfl, b2⟩
  have HS2 := HS1.keep b2
  go_wp2
  go_ret2
  exact ⟨rfl, HS2.hb⟩
set_option maxRecDepth 100000 in
theorem synced_v (p : Option Addr) (w : World) (h : NoM w p) : Calls Tryd.prog 35 #[.pointer p] w fun e w' => e = .returned (.bool false) ∧ Below w.heap.size w w' := by
  have HS0 := Sep.start w
  have HN := Lib.hid h
  clear h
  go_enter Tryd.func35, Tryd.ntmps35
  go_wp2
  refine Cop.region_ord (fun w' => Sep w.heap.size w w' []) 15 (.take 0 (.run 1 (.take 2 (.take 3 (.take 4 (.take 5 (.take 6 (.take 7 (.take 8 (.take 9 (.take 10 (.take 11 (.take 12 (.take 13 (.take 14 (.take 15 Cop.Ord.fin)))))))))))))))) (by kernel_rfl) (by kernel_rfl) (fun _ _ d _ _ h => by cases d <;> exact h) ?_
  intro wa hda
  have HSa := HS0.keep hda
  clear HS0
  (repeat (first | (refine Cop.og_skip rfl rfl HSa _ (by (simp only [Act.put, List.setIfInBounds_toArray, List.set_cons_succ, List.set_cons_zero]; rfl)) ?_) | (refine Cop.og_take rfl rfl HSa ?_; apply Exists.intro; refine ⟨fun w9 h9 => ?_, _, by (simp only [Act.put, List.setIfInBounds_toArray, List.set_cons_succ, List.set_cons_zero]; rfl), ?_⟩; (go_simp; with_reducible rfl))))
  refine Cop.og_run rfl rfl ?_
  refine ow_call 55 _ _ (fun w' => w' = wa) (by go_simp) ((noneM_v p wa (HN.out.below HSa.hb)).mono fun e w' h => ⟨h.1, h.2⟩) ?_
  intro wb bb
  subst bb
  refine ⟨fun _ => HSa, ?_⟩
  (repeat (first | (refine Cop.og_skip rfl rfl HSa _ (by (simp only [Act.put, List.setIfInBounds_toArray, List.set_cons_succ, List.set_cons_zero]; rfl)) ?_) | (refine Cop.og_take rfl rfl HSa ?_; apply Exists.intro; refine ⟨fun w9 h9 => ?_, _, by (simp only [Act.put, List.setIfInBounds_toArray, List.set_cons_succ, List.set_cons_zero]; rfl), ?_⟩; (go_simp; with_reducible rfl))))
  refine og_fin ?_
  go_wp2
  go_ret
  exact ⟨rfl, HSa.hb⟩
end Go.Proofs.YtlhebogbbkjahaaDoor
