import Derived.Test.YtlhebogbbkjahaaDoorSb
namespace Go.Proofs.YtlhebogbbkjahaaDoor
open Go.RowKit Cop
set_option linter.unusedVariables false
set_option linter.unusedSimpArgs false
/-- Words as bytes, the highest first. -/
def wb (l : List UInt32) : List UInt8 := l.flatMap fun w => be 4 w.toNat
theorem wb_length (l : List UInt32) : (wb l).length = 4 * l.length := by
  induction l with
  | nil => rfl
  | cons a l ih => rw [wb, List.flatMap_cons, List.length_append, be_length]; rw [wb] at ih; simp only [List.length_cons]; omega
theorem wb_take (l : List UInt32) (i : Nat) (hi : i < l.length) : wb (l.take (i + 1)) = wb (l.take i) ++ be 4 (l.getD i 0).toNat := by
  rw [List.take_succ_eq_append_getElem hi, wb, List.flatMap_append]
  simp [wb, List.getD, hi]
theorem own_mono {w : World} {base base' n size : Nat} {e : TypeId} {v : Value} {xs : List Value} (h : w.ownsRow base e size v n xs) (hb : base' ≤ base) : w.ownsRow base' e size v n xs := by
  refine ⟨h.1, h.2.imp id ?_⟩
  rintro ⟨g, cap, cur, a, b, c⟩
  exact ⟨g, cap, cur, a, Nat.le_trans hb b, c⟩
set_option maxRecDepth 100000 in
set_option maxHeartbeats 4000000 in
theorem words_gen (wb : List UInt32 → List UInt8) (wb_nil : wb [] = []) (wb_length : ∀ l, (wb l).length = 4 * l.length) (wb_take : ∀ (l : List UInt32) (i : Nat), i < l.length → wb (l.take (i + 1)) = wb (l.take i) ++ be 4 (l.getD i 0).toNat)
    (h : H8) (w : World) :
    Calls Tryd.prog 94 #[.agg (hv h)] w fun e w' => ∃ x, e = .returned x ∧ Below w.heap.size w w' ∧ w'.ownsRow w.heap.size 5 1 x 32 (bl (wb h.l)) := by
  have WN := Lib.hid wb_nil
  have WL := Lib.hid wb_length
  have WT := Lib.hid wb_take
  clear wb_nil wb_length wb_take
  go_enter Tryd.func94, Tryd.ntmps94
  go_wp2_with fail
  first | refine Cop.wl_world fun w1 hw1 => ?_ | refine Cop.calls_world fun w1 hw1 => ?_ | refine Cop.exit_world fun w1 hw1 => ?_ | refine Cop.code_world fun w1 hw1 => ?_
  have r1 : w1.heap[w.heap.size]? = some (.cells (hv h) 157 (0, 0)) := by rw [← hw1]; (repeat (first | refine Cop.at_new _ _ _ (by simp) | refine Cop.at_old _ _ _ (by simp <;> omega) ?_ | refine Cop.at_old _ _ _ (by simp) ?_))
  have b1 : Below w.heap.size w w1 := by rw [← hw1]; exact (Below.refl _ _).alloc (Nat.le_refl _) _
  have z1 : w1.heap.size = w.heap.size + 1 := by rw [← hw1]; simp
  clear hw1
  have Z1 := Lib.hid z1
  clear z1
  go_loopw [3, 4] (fun s3 s4 wr => ∃ i : Nat, i ≤ 8 ∧ s4 = .int .i64 i ∧ Below (w.heap.size + 1) w1 wr ∧ wr.ownsRow (w.heap.size + 1) 5 1 s3 (4 * i) (bl (wb (h.l.take i)))) (fun _ s4 _ => 8 - (intOf s4).toNat)
  case atStart => exact ⟨0, by omega, rfl, Below.refl _ _, by rw [List.take_zero, WN.out]; exact World.ownsRow_nil _ _ _ _⟩
  case round =>
    obtain ⟨i, hi, rfl, bb, ho⟩ := hrel
    have R1 := Lib.hid r1
    clear r1
    by_cases hlt : i < 8
    · have c1 : wr.cell? ⟨w.heap.size, i, none⟩ = some (.int .u32 ((h.l.getD i 0).toNat : Int)) := by
        rw [row_cell ((bb.block _ (by omega)).trans R1.out), hv_get _ _ hlt]
      have HT := Lib.hid (WT.out h.l i (by simpa [H8.l] using hlt))
      generalize h.l.getD i 0 = x at c1 HT
      have hx := u32_lt x
      have hi8 : (i : Int) < 8 := by omega
      have HO := Lib.hid ho
      obtain ⟨A, c, rfl⟩ := own_slice ho
      clear ho
      go_wp2_with (first | (go_at_call 69; refine (number_b x.toNat 4 _ (by omega) (by omega)).mono ?_; rintro e w3 ⟨y, rfl, hb3, ho3⟩) | (at_builtin; go_loud (refine wl_append_rd (w.heap.size + 1) rfl _ _ 65 5 (.int .u8 0) 1 1 rfl Tryd.underlying65 info_u8 rfl (by decide) (by decide) _ _ _ (own_below HO.out hb3) (bb.trans (hb3.mono (by have := bb.size; have := Z1.out; omega))) ?_ _ _ _ (Rd.of_own ho3) (bl_one _) rfl rfl ?_ ?_)))
      · have := bb.size; have := hb3.size; have := Z1.out; omega
      · omega
      intro v4 w4 ho4 hb4 _
      go_wp2
      go_roundw
      case rel => exact ⟨i + 1, by omega, by go_num, hb4, by rw [HT.out, bl_append]; exact ho4⟩
      case measure => simp [intOf]; omega
    · have hi8 : i = 8 := by omega
      subst hi8
      clear hlt hi
      go_wp2
      go_ret
      refine ⟨_, rfl, b1.trans (bb.mono (by omega)), ?_⟩
      rw [List.take_of_length_le (by simp [H8.l])] at ho
      exact own_mono ho (by omega)
theorem words_b (h : H8) (w : World) :
    Calls Tryd.prog 94 #[.agg (hv h)] w fun e w' => ∃ x, e = .returned x ∧ Below w.heap.size w w' ∧ w'.ownsRow w.heap.size 5 1 x 32 (bl (wb h.l)) :=
  words_gen wb rfl wb_length wb_take h w
end Go.Proofs.YtlhebogbbkjahaaDoor
