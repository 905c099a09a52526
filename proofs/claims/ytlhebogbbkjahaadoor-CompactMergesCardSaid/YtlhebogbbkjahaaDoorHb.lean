import Derived.Test.YtlhebogbbkjahaaDoorHa
import Derived.Test.YtlhebogbbkjahaaDoorArr
import Derived.StillTailTactics
namespace Go.Proofs.YtlhebogbbkjahaaDoor
open Go.RowKit Cop
set_option linter.unusedVariables false
set_option linter.unusedSimpArgs false
theorem word_walk (a b c d : UInt8) :
  bits BinOp.or .u32 (bits BinOp.or .u32 (bits BinOp.or .u32 ((a.toNat : Int) % 4294967296 * 16777216 % 4294967296) ((b.toNat : Int) % 4294967296 * 65536 % 4294967296)) ((c.toNat : Int) % 4294967296 * 256 % 4294967296)) ((d.toNat : Int) % 4294967296) =
    (((a.toUInt32 <<< UInt32.ofNat 24) ||| (b.toUInt32 <<< UInt32.ofNat 16) ||| (c.toUInt32 <<< UInt32.ofNat 8) ||| d.toUInt32).toNat : Int) := by
  have hw : ∀ x : UInt8, (x.toNat : Int) % 4294967296 = (x.toUInt32.toNat : Int) := fun x => by
    rw [u8to32]; have := u32_lt x.toUInt32; omega
  have h1 := shl32 a.toUInt32 24 (by omega)
  have h2 := shl32 b.toUInt32 16 (by omega)
  have h3 := shl32 c.toUInt32 8 (by omega)
  rw [show (2 : Int) ^ 24 = 16777216 from rfl] at h1
  rw [show (2 : Int) ^ 16 = 65536 from rfl] at h2
  rw [show (2 : Int) ^ 8 = 256 from rfl] at h3
  rw [hw, hw, hw, hw, ← bor32, ← bor32, ← bor32, h1, h2, h3]
set_option maxRecDepth 100000 in
set_option maxHeartbeats 4000000 in
theorem schedule_a (b : List UInt8) (w : World) (hb : b.length = 64) :
    Calls Tryd.prog 99 #[.agg (bv b)] w fun e w' => e = .returned (.agg (wv (sched b 64))) ∧ Below w.heap.size w w' := by
  go_enter Tryd.func99, Tryd.ntmps99
  go_wp2
  first | refine Cop.wl_world fun w1 hw1 => ?_ | refine Cop.calls_world fun w1 hw1 => ?_ | refine Cop.exit_world fun w1 hw1 => ?_ | refine Cop.code_world fun w1 hw1 => ?_
  have h24 : w1.heap[w.heap.size]? = some (.cells (bv b) 175 (0, 0)) := by rw [← hw1]; exact heap_alloc2_old w _ _
  have h26 : w1.heap[w.heap.size + 1]? = some (.cells (wv (sched b 0 ++ List.replicate (64 - 0) 0)) 176 (0, 0)) := by rw [← hw1]; exact heap_alloc2_new w _ _
  have hbl : Below w.heap.size w w1 := by rw [← hw1]; exact ((Below.refl _ _).alloc (Nat.le_refl _) _).alloc (by simp) _
  clear hw1
  go_loopw [8] (fun s wr => ∃ t : Nat, t ≤ 16 ∧ s = .int .i64 t ∧ Below w.heap.size w wr ∧ wr.heap[w.heap.size]? = some (.cells (bv b) 175 (0, 0)) ∧ wr.heap[w.heap.size + 1]? = some (.cells (wv (sched b t ++ List.replicate (64 - t) 0)) 176 (0, 0))) (fun s _ => 16 - (intOf s).toNat)
  case atStart => exact ⟨0, by omega, rfl, hbl, h24, h26⟩
  case round =>
    clear h24 h26 hbl
    obtain ⟨t, ht, rfl, hbl, h24, h26⟩ := hrel
    by_cases hlt : t < 16
    · have c0 := row_bv h24 (4 * t) (by omega)
      have c1 := row_bv h24 (4 * t + 1) (by omega)
      have c2 := row_bv h24 (4 * t + 2) (by omega)
      have c3 := row_bv h24 (4 * t + 3) (by omega)
      obtain ⟨y, c4⟩ : ∃ y, wr.cell? ⟨w.heap.size + 1, t, none⟩ = some y := ⟨_, row_wv h26 t (by simp [sched_length]; omega)⟩
      have hsl := run_arr_from (P := Tryd.prog) wr Tryd.underlying175 (by kernel_rfl) w.heap.size .i64 (4 * (t : Int)) (4 * t) (by omega) (by omega)
      have H24 := Lib.hid h24
      have H26 := Lib.hid h26
      have f4 := row_thaw h26 t
      clear h24 h26
      have HW := Lib.hid (word_walk (b.getD (4 * t) 0) (b.getD (4 * t + 1) 0) (b.getD (4 * t + 2) 0) (b.getD (4 * t + 3) 0))
      have HS := Lib.hid (sched_pad_set b t (word b t) (by omega) (by rw [if_pos hlt]))
      have HE : Hid (word b t = _) := Lib.hid (show word b t = (((b.getD (4 * t) 0).toUInt32 <<< UInt32.ofNat 24) ||| ((b.getD (4 * t + 1) 0).toUInt32 <<< UInt32.ofNat 16) ||| ((b.getD (4 * t + 2) 0).toUInt32 <<< UInt32.ofNat 8) ||| (b.getD (4 * t + 3) 0).toUInt32) from rfl)
      obtain ⟨m, hm⟩ : ∃ m : Nat, 64 - 4 * t = m := ⟨_, rfl⟩
      obtain ⟨o, ho⟩ : ∃ o : Nat, 4 * t = o := ⟨_, rfl⟩
      have hm4 : 4 ≤ m := by omega
      rw [hm, ho] at hsl
      rw [ho] at c0 c1 c2 c3 HW HE
      generalize b.getD o 0 = x0 at *
      generalize b.getD (o + 1) 0 = x1 at *
      generalize b.getD (o + 2) 0 = x2 at *
      generalize b.getD (o + 3) 0 = x3 at *
      have HO := Lib.hid ho
      clear hm ho
      have hm0 : 0 < m := by omega
      have hm1 : (1 : Int) < (m : Int) := by omega
      have hm2 : (2 : Int) < (m : Int) := by omega
      have hm3 : (3 : Int) < (m : Int) := by omega
      have ht64 : (t : Int) < 64 := by omega
      go_wp2
      go_still_tail 24, (by kernel_rfl)
      change wpList _ _ _ _ _ wr.drew
      first | refine Cop.wl_world fun w2 hw2 => ?_ | refine Cop.calls_world fun w2 hw2 => ?_ | refine Cop.exit_world fun w2 hw2 => ?_ | refine Cop.code_world fun w2 hw2 => ?_
      have c5 : w2.cell? ⟨w.heap.size + 1, t, none⟩ = some y := by rw [← hw2]; exact c4
      have f5 : w2.frozen? ⟨w.heap.size + 1, t, none⟩ = false := by rw [← hw2]; exact f4
      go_wp2
      refine ⟨⟨t + 1, by omega, by go_num, ?_, ?_, ?_⟩, by simp [intOf]; omega⟩
      · exact (show Below w.heap.size w w2 by rw [← hw2]; exact hbl.drew).setCell (by simp) _
      · exact row_skip (by simp) _ _ (by rw [← hw2]; exact H24.out)
      · have h2 := row_of_drew hw2 H26.out
        rw [HW.out, ← HE.out, row_set h2, wv_set, HS.out]
    · have ht16 : t = 16 := by omega
      subst ht16
      clear hlt
      go_wp2
      rw [show ((16 : Nat) : Int) = 16 from rfl]
      go_loopw [5] (fun s wr => ∃ n : Nat, n ≤ 48 ∧ s = .int .i64 ((n : Int) + 16) ∧ Below w.heap.size w wr ∧ wr.heap[w.heap.size + 1]? = some (.cells (wv (sched b (n + 16) ++ List.replicate (64 - (n + 16)) 0)) 176 (0, 0))) (fun s _ => 64 - (intOf s).toNat)
      case atStart => exact ⟨0, by omega, rfl, hbl, h26⟩
      case round =>
        clear h24 h26 hbl
        obtain ⟨n, hn, rfl, hbl, h26⟩ := hrel
        by_cases hlt : n < 48
        · have c14 := row_sched (n + 16) h26 (n + 14) (by omega)
          have c1 := row_sched (n + 16) h26 (n + 1) (by omega)
          have HN := Lib.hid (wnext_at b n)
          have HS := Lib.hid (sched_pad_set b (n + 16) (wnext (sched b (n + 16))) (by omega) (by rw [if_neg (by omega)]))
          have H26 := Lib.hid h26
          clear h26
          generalize (sched b (n + 16)).getD (n + 14) 0 = x14 at *
          generalize (sched b (n + 16)).getD (n + 1) 0 = x1 at *
          have ht64 : (n : Int) + 16 < 64 := by omega
          go_wp2
          go_quiet (fail)
          go_wp2
          clear c14 c1
          first | refine Cop.wl_world fun w2 hw2 => ?_ | refine Cop.calls_world fun w2 hw2 => ?_ | refine Cop.exit_world fun w2 hw2 => ?_ | refine Cop.code_world fun w2 hw2 => ?_
          have h26 := row_of_drewN hw2 H26.out
          replace hbl := below_dN hw2 hbl
          clear H26 hw2
          obtain ⟨y, c4⟩ : ∃ y, w2.cell? ⟨w.heap.size + 1, n + 16, none⟩ = some y := ⟨_, row_wv h26 (n + 16) (by simp [sched_length]; omega)⟩
          have c9 := row_sched (n + 16) h26 (n + 9) (by omega)
          have c0 := row_sched (n + 16) h26 n (by omega)
          generalize (sched b (n + 16)).getD (n + 9) 0 = x9 at *
          generalize (sched b (n + 16)).getD n 0 = x0 at *
          have f4 := row_thaw h26 (n + 16)
          have H26 := Lib.hid h26
          clear h26
          go_still_tail 29, (by kernel_rfl)
          still_call (ror_aq x14 17 _ _ rfl (by omega) (by omega))
          repeat (first | still_step | (refine Go.wpStill_step (fun K hK => ?_); go_simp; (try go_bits); (try rw [if_pos (by omega)]); (try go_simp); (try go_bits); refine hK _ ?_; clear hK K))
          still_call (ror_aq x14 19 _ _ rfl (by omega) (by omega))
          repeat (first | still_step | (refine Go.wpStill_step (fun K hK => ?_); go_simp; (try go_bits); (try rw [if_pos (by omega)]); (try go_simp); (try go_bits); refine hK _ ?_; clear hK K))
          still_call (ror_aq x1 7 _ _ rfl (by omega) (by omega))
          repeat (first | still_step | (refine Go.wpStill_step (fun K hK => ?_); go_simp; (try go_bits); (try rw [if_pos (by omega)]); (try go_simp); (try go_bits); refine hK _ ?_; clear hK K))
          still_call (ror_aq x1 18 _ _ rfl (by omega) (by omega))
          repeat (first | still_step | (refine Go.wpStill_step (fun K hK => ?_); go_simp; (try go_bits); (try rw [if_pos (by omega)]); (try go_simp); (try go_bits); refine hK _ ?_; clear hK K))
          refine wpStill_nil ?_
          change wpList _ _ _ _ _ w2.drew
          first | refine Cop.wl_world fun w3 hw3 => ?_ | refine Cop.calls_world fun w3 hw3 => ?_ | refine Cop.exit_world fun w3 hw3 => ?_ | refine Cop.code_world fun w3 hw3 => ?_
          have c5 : w3.cell? ⟨w.heap.size + 1, n + 16, none⟩ = some y := by rw [← hw3]; exact c4
          have f5 : w3.frozen? ⟨w.heap.size + 1, n + 16, none⟩ = false := by rw [← hw3]; exact f4
          go_wp2
          go_roundw
          case rel =>
            refine ⟨n + 1, by omega, by go_num, (below_d hw3 hbl).setCell (by simp) _, ?_⟩
            rw [row_set (row_of_drew hw3 H26.out)]
            simp only [bxor32, shr10, shr3, add4]
            rw [wv_set, show n + 1 + 16 = n + 16 + 1 from by omega, ← HS.out, HN.out]
            rfl
          case measure => simp [intOf]; omega
        · have hn48 : n = 48 := by omega
          subst hn48
          clear hlt
          have hsz : (Tryd.prog.info? 176).map (·.size) = some (wv (sched b (48 + 16) ++ List.replicate (64 - (48 + 16)) 0)).size := by
            rw [wv_size]; simp only [List.length_append, sched_length, List.length_replicate]; kernel_rfl
          have H26 := Lib.hid h26
          clear h26
          go_wp2_with (first | refine wl_load_row rfl 176 _ rfl (w.heap.size + 1) rfl 176 _ (0, 0) _ H26.out Tryd.underlying176 rfl hsz ?_ | refine wl_store_row rfl 176 _ _ rfl (w.heap.size + 1) rfl 176 _ _ rfl H26.out hsz rfl (wv_one _) ?_)
          refine ret_row rfl rfl (w.heap.size + 1) rfl 176 _ (0, 0) _ (setRow_heap _ _ _ _ _ _ H26.out) Tryd.underlying176 rfl hsz ⟨?_, below_setRow hbl (by simp) _⟩
          rw [show sched b (48 + 16) ++ List.replicate (64 - (48 + 16)) 0 = sched b 64 from by simp]
end Go.Proofs.YtlhebogbbkjahaaDoor
