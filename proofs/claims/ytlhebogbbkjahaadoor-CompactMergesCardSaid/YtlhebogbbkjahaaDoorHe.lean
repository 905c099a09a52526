import Derived.Test.YtlhebogbbkjahaaDoorHd
namespace Go.Proofs.YtlhebogbbkjahaaDoor
open Go.RowKit Cop
set_option linter.unusedVariables false
set_option linter.unusedSimpArgs false
theorem word_at (b : List UInt8) (t : Nat) (h : 4 * t + 4 ≤ b.length) : num ((b.drop (4 * t)).take 4) = (word b t).toNat := by
  have e : (b.drop (4 * t)).take 4 = [b.getD (4 * t) 0, b.getD (4 * t + 1) 0, b.getD (4 * t + 2) 0, b.getD (4 * t + 3) 0] := by
    apply List.ext_getElem
    · simp; omega
    · intro i h1 h2
      simp at h2
      rcases i with _ | _ | _ | _ | i
      · simp [List.getD, show 4 * t < b.length from by omega]
      · simp [List.getD, show 4 * t + 1 < b.length from by omega]
      · simp [List.getD, show 4 * t + 2 < b.length from by omega]
      · simp [List.getD, show 4 * t + 3 < b.length from by omega]
      · omega
  rw [e, word, word_num]
/-- The rows of the reference's Schedule. -/
structure SRow (w : World) (B : Nat) (b : List UInt8) (l : List UInt32) : Prop where
  r0 : w.heap[B]? = some (.cells (bv b) 175 (0, 0))
  r1 : w.heap[B + 1]? = some (.cells (wv (List.replicate 64 0)) 176 (0, 0))
  r2 : w.heap[B + 2]? = some (.cells (wv l) 176 (0, 0))
theorem SRow.dr {w w2 : World} {B : Nat} {b : List UInt8} {l : List UInt32} (c : SRow w B b l) (e : w.drew = w2) : SRow w2 B b l := by subst e; exact ⟨c.r0, c.r1, c.r2⟩
theorem SRow.set {w : World} {B : Nat} {b : List UInt8} {l : List UInt32} (c : SRow w B b l) (i : Nat) (x : UInt32) (m : List UInt32) (hm : l.set i x = m) : SRow (w.setCell ⟨B + 2, i, none⟩ (.int .u32 x.toNat)) B b m :=
  ⟨row_skip (by omega) _ _ c.r0, row_skip (by omega) _ _ c.r1, by rw [row_set c.r2, wv_set, hm]⟩
set_option maxRecDepth 100000 in
set_option maxHeartbeats 4000000 in
theorem schedule_b (b : List UInt8) (w : World) (hb : b.length = 64) :
    Calls Tryd.prog 101 #[.agg (bv b)] w fun e w' => e = .returned (.agg (wv (sched b 64))) ∧ Below w.heap.size w w' := by
  go_enter Tryd.func101, Tryd.ntmps101
  go_wp2
  first | refine Cop.wl_world fun w1 hw1 => ?_ | refine Cop.calls_world fun w1 hw1 => ?_ | refine Cop.exit_world fun w1 hw1 => ?_ | refine Cop.code_world fun w1 hw1 => ?_
  have q0 : w1.heap[w.heap.size]? = some (.cells (bv b) 175 (0, 0)) := by rw [← hw1]; (repeat (first | refine Cop.at_new _ _ _ (by simp) | refine Cop.at_old _ _ _ (by simp <;> omega) ?_ | refine Cop.at_old _ _ _ (by simp) ?_))
  have q1 : w1.heap[w.heap.size + 1]? = some (.cells (wv (List.replicate 64 0)) 176 (0, 0)) := by rw [← hw1]; exact at_old _ _ _ (by simp) (at_new _ _ _ (by simp))
  have q2 : w1.heap[w.heap.size + 2]? = some (.cells (wv (sched b 0 ++ List.replicate (64 - 0) 0)) 176 (0, 0)) := by rw [← hw1]; exact at_new _ _ _ (by simp)
  have R : SRow w1 w.heap.size b (sched b 0 ++ List.replicate (64 - 0) 0) := ⟨q0, q1, q2⟩
  clear q0 q1 q2
  have bb : Below w.heap.size w w1 := by rw [← hw1]; exact (((Below.refl _ _).alloc (Nat.le_refl _) _).alloc (by simp) _).alloc (by simp; omega) _
  clear hw1
  go_loopw [4] (fun s wr => ∃ t : Nat, t ≤ 64 ∧ s = .int .i64 t ∧ Below w.heap.size w wr ∧ SRow wr w.heap.size b (sched b t ++ List.replicate (64 - t) 0)) (fun s _ => 64 - (intOf s).toNat)
  case atStart => exact ⟨0, by omega, rfl, bb, R⟩
  case round =>
    clear R bb
    obtain ⟨t, ht, rfl, bb, R⟩ := hrel
    by_cases hlt : t < 64
    · by_cases h16 : t < 16
      · have hrd := Lib.hid (read_b wr _ b (4 * t) 4 (by rw [hb]; exact rd_of_row R.r0 64 hb (by omega)) (by omega) (by omega))
        have hall := run_arr_all (P := Tryd.prog) wr Tryd.underlying175 (by kernel_rfl) w.heap.size
        have RR := Lib.hid R
        clear R
        go_wp2_with fail
        refine hrd.out.mono ?_
        rintro e w2 ⟨rfl, rfl⟩
        have hW := word_at b t (by omega)
        rw [hW]
        have hT := sched_pad_set b t (word b t) (by omega) (by rw [if_pos h16])
        have HS := Lib.hid hT
        clear hT hW
        obtain ⟨y, c4⟩ : ∃ y, wr.cell? ⟨w.heap.size + 2, t, none⟩ = some y := ⟨_, row_wv RR.out.r2 t (by simp [sched_length]; omega)⟩
        have f4 := row_thaw RR.out.r2 t
        have hx : ((word b t).toNat : Int) % 4294967296 = ((word b t).toNat : Int) := by have := u32_lt (word b t); omega
        generalize word b t = x at HS hx ⊢
        have ht64 : (t : Int) < 64 := by omega
        go_wp2
        exact ⟨⟨t + 1, by omega, by go_num, bb.setCell (by simp; omega) _, RR.out.set t x _ HS.out⟩, by simp [intOf]; omega⟩
      · obtain ⟨n, rfl⟩ : ∃ n, t = n + 16 := ⟨t - 16, by omega⟩
        have c14 := row_sched (n + 16) R.r2 (n + 14) (by omega)
        have c1 := row_sched (n + 16) R.r2 (n + 1) (by omega)
        have HN := Lib.hid (wnext_at b n)
        have HS := Lib.hid (sched_pad_set b (n + 16) (wnext (sched b (n + 16))) (by omega) (by rw [if_neg (by omega)]))
        have RR := Lib.hid R
        clear R
        generalize (sched b (n + 16)).getD (n + 14) 0 = x14 at c14 HN
        generalize (sched b (n + 16)).getD (n + 1) 0 = x1 at c1 HN
        have ht64 : (n : Int) + 16 < 64 := by omega
        have hh16 : ¬ ((n : Int) + 16 < 16) := by omega
        clear h16
        rw [Int.natCast_add, show ((16 : Nat) : Int) = 16 from rfl]
        go_wp2
        clear c14 c1
        obtain ⟨y, c4⟩ : ∃ y, wr.cell? ⟨w.heap.size + 2, n + 16, none⟩ = some y := ⟨_, row_wv RR.out.r2 (n + 16) (by simp [sched_length]; omega)⟩
        have c9 := row_sched (n + 16) RR.out.r2 (n + 9) (by omega)
        have c0 := row_sched (n + 16) RR.out.r2 n (by omega)
        generalize (sched b (n + 16)).getD (n + 9) 0 = x9 at c9 HN
        generalize (sched b (n + 16)).getD n 0 = x0 at c0 HN
        have f4 := row_thaw RR.out.r2 (n + 16)
        go_still_tail 29, (by kernel_rfl)
        still_call (ror_bq x14 17 _ _ rfl (by omega) (by omega))
        repeat (first | still_step | (refine Go.wpStill_step (fun K hK => ?_); go_simp; (try go_bits); (try rw [if_pos (by omega)]); (try go_simp); (try go_bits); refine hK _ ?_; clear hK K))
        still_call (ror_bq x14 19 _ _ rfl (by omega) (by omega))
        repeat (first | still_step | (refine Go.wpStill_step (fun K hK => ?_); go_simp; (try go_bits); (try rw [if_pos (by omega)]); (try go_simp); (try go_bits); refine hK _ ?_; clear hK K))
        still_call (ror_bq x1 7 _ _ rfl (by omega) (by omega))
        repeat (first | still_step | (refine Go.wpStill_step (fun K hK => ?_); go_simp; (try go_bits); (try rw [if_pos (by omega)]); (try go_simp); (try go_bits); refine hK _ ?_; clear hK K))
        still_call (ror_bq x1 18 _ _ rfl (by omega) (by omega))
        repeat (first | still_step | (refine Go.wpStill_step (fun K hK => ?_); go_simp; (try go_bits); (try rw [if_pos (by omega)]); (try go_simp); (try go_bits); refine hK _ ?_; clear hK K))
        refine wpStill_nil ?_
        change wpList _ _ _ _ _ wr.drew
        first | refine Cop.wl_world fun w3 hw3 => ?_ | refine Cop.calls_world fun w3 hw3 => ?_ | refine Cop.exit_world fun w3 hw3 => ?_ | refine Cop.code_world fun w3 hw3 => ?_
        have c5 : w3.cell? ⟨w.heap.size + 2, n + 16, none⟩ = some y := by rw [← hw3]; exact c4
        have f5 : w3.frozen? ⟨w.heap.size + 2, n + 16, none⟩ = false := by rw [← hw3]; exact f4
        go_wp2
        go_roundw
        case rel =>
          refine ⟨n + 16 + 1, by omega, by go_num, (below_d hw3 bb).setCell (by simp; omega) _, ?_⟩
          simp only [bxor32, shr10, shr3, add4]
          exact (RR.out.dr hw3).set (n + 16) _ _ (by rw [← HS.out, HN.out]; rfl)
        case measure => simp [intOf]; omega
    · have ht64 : t = 64 := by omega
      subst ht64
      clear hlt
      have i2 : (Tryd.prog.info? 176).map (·.size) = some (wv (sched b 64 ++ List.replicate (64 - 64) 0)).size := by
        rw [wv_size]; simp only [List.length_append, sched_length, List.length_replicate]; exact info_w64
      have RR := Lib.hid R
      clear R
      go_wp2_with (first | refine wl_load_row rfl 176 _ rfl (w.heap.size + 2) rfl 176 _ (0, 0) _ RR.out.r2 Tryd.underlying176 rfl i2 ?_ | refine wl_store_row rfl 176 _ _ rfl (w.heap.size + 1) rfl 176 (wv (List.replicate 64 0)) (wv (sched b 64 ++ List.replicate (64 - 64) 0)) rfl RR.out.r1 i2 (by rw [wv_size, wv_size]; simp [sched_length]) (wv_one _) ?_)
      refine ret_row rfl rfl (w.heap.size + 1) rfl 176 _ (0, 0) _ (setRow_heap _ _ _ _ _ _ RR.out.r1) Tryd.underlying176 rfl i2 ⟨?_, below_setRow bb (by simp) _⟩
      rw [show sched b 64 ++ List.replicate (64 - 64) 0 = sched b 64 from by simp]
end Go.Proofs.YtlhebogbbkjahaaDoor
