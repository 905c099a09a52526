/- Proved here: any digest has the document's digits (onetime.Digits); without condition. -/
import Derived.Test.YtkgdjddcnlkppaaOc
import Derived.Test.YtkgdjddcnlkppaaFOnetimeDigits
namespace Go.Proofs.Ytkgdjddcnlkppaa
open Go.RowKit Cop
set_option linter.unusedVariables false
set_option linter.unusedSimpArgs false
theorem names_a (w : World) : Calls Try.prog 7 #[] w fun e w' => e = .returned (.bool true) ∧ Below w.heap.size w w' := by
  go_enter Try.func7, Try.ntmps7
  go_wp2
  go_ret
  exact ⟨rfl, Below.refl _ _⟩
theorem eq_nv (w : World) {d : Nat} {t e : TypeId} {n : Nat} (ht : Try.prog.underlying t = some (.array n e)) (he : Try.prog.underlying e = some (.int .i64)) (hs : (Try.prog.info? e).map (·.size) = some 1) (l : List Nat) (hl : l.length = n) :
    (Op.equalIn (d + 2) t (.agg (nv l)) (.agg (nv l))).run Try.prog w = .ok true w := by
  have h : nv l = nmv .i64 (l.map fun b : Nat => (b : Int)) := by simp [nv, nmv]
  rw [h, run_equal_nmv w ht he hs _ _ (by simpa using hl) (by simpa using hl)]
  simp
set_option maxRecDepth 100000 in
set_option maxHeartbeats 4000000 in
theorem onetimeDigits_walk (d : List UInt8) (hd : d.length = 32) (w : World) :
    Calls Try.prog 3 #[.agg (bv d)] w fun e w' => e = .returned (.bool true) ∧ Below w.heap.size w w' := by
  have hsb : (Try.prog.info? 23).map (·.size) = some (bv d).size := by rw [bv_size, hd]; kernel_rfl
  have HSB := Lib.hid hsb
  have heq : ∀ (w' : World), (Op.equalIn (9998 + 2) 24 (.agg (nv (dgts d 133))) (.agg (nv (dgts d 133)))).run Try.prog w' = .ok true w' := fun w' => eq_nv w' Try.underlying24 Try.underlying3 (by kernel_rfl) _ (dgts_length _ _)
  have DA := Lib.hid (digits_a d hd)
  have DB := Lib.hid (digits_b d hd)
  generalize nv (dgts d 133) = D at heq DA DB
  clear hsb hd
  go_enter Try.func3, Try.ntmps3
  go_wp2
  first | refine Cop.wl_world fun w1 hw1 => ?_ | refine Cop.calls_world fun w1 hw1 => ?_ | refine Cop.exit_world fun w1 hw1 => ?_ | refine Cop.code_world fun w1 hw1 => ?_
  have r1 : w1.heap[w.heap.size]? = some (.cells (bv d) 23 (0, 0)) := by rw [← hw1]; (repeat (first | refine Cop.at_new _ _ _ (by simp) | refine Cop.at_old _ _ _ (by simp <;> omega) ?_ | refine Cop.at_old _ _ _ (by simp) ?_))
  have R1 := Lib.hid r1
  have bb : Below w.heap.size w w1 := by rw [← hw1]; exact bal (Below.refl _ _) _
  clear hw1 r1
  refine wp_region_grow (by kernel_rfl) (by kernel_rfl) ?_
  refine wq_load_row 23 _ rfl w.heap.size rfl 23 (bv d) (0, 0) _ R1.out Try.underlying23 rfl HSB.out _ rfl (by simp only [Act.put, List.setIfInBounds_toArray, List.set_cons_succ, List.set_cons_zero]; rfl) ?_
  refine wq_call (.agg D) _ 5 #[.agg (bv d)] rfl (fun w' => by go_simp) (fun w' hw' => DA.out w') (by simp only [Act.put, List.setIfInBounds_toArray, List.set_cons_succ, List.set_cons_zero]; rfl) ?_
  refine wq_load_row 23 _ rfl w.heap.size rfl 23 (bv d) (0, 0) _ R1.out Try.underlying23 rfl HSB.out _ rfl (by simp only [Act.put, List.setIfInBounds_toArray, List.set_cons_succ, List.set_cons_zero]; rfl) ?_
  refine wq_call (.agg D) _ 6 #[.agg (bv d)] rfl (fun w' => by go_simp) (fun w' hw' => DB.out w') (by simp only [Act.put, List.setIfInBounds_toArray, List.set_cons_succ, List.set_cons_zero]; rfl) ?_
  refine wq_val (.bool true) _ rfl (fun w' hw' => by go_simp) (by simp only [Act.put, List.setIfInBounds_toArray, List.set_cons_succ, List.set_cons_zero]; rfl) ?_
  refine wq_val (.bool true) _ rfl (fun w' hw' => by go_simp) (by simp only [Act.put, List.setIfInBounds_toArray, List.set_cons_succ, List.set_cons_zero]; rfl) ?_
  refine wq_call (.bool true) _ 7 #[] rfl (fun w' => by go_simp) (fun w' hw' => names_a w') (by simp only [Act.put, List.setIfInBounds_toArray, List.set_cons_succ, List.set_cons_zero]; rfl) ?_
  refine wq_val (.bool true) _ rfl (fun w' hw' => by go_simp) (by simp only [Act.put, List.setIfInBounds_toArray, List.set_cons_succ, List.set_cons_zero]; rfl) ?_
  refine wq_val (.bool true) _ rfl (fun w' hw' => by go_simp) (by simp only [Act.put, List.setIfInBounds_toArray, List.set_cons_succ, List.set_cons_zero]; rfl) ?_
  refine wq_done (fun w2 hb2 => ?_)
  go_wp2
  go_ret
  exact ⟨rfl, bb.trans (hb2.mono bb.size)⟩
theorem onetimeDigits_holds : Rows.OnetimeDigitsSaid := onetimeDigits.row_of_walk fun H enc W base v0 d0 p0 h0 k0 _ => by
  obtain ⟨d, hd, rfl⟩ := open_bytes Try.underlying23 Try.underlying5 (by kernel_rfl) (by kernel_rfl) h0 k0
  exact onetimeDigits_walk d hd W
#print axioms onetimeDigits_holds
end Go.Proofs.Ytkgdjddcnlkppaa
