import Derived.Test.YtlhebogbbkjahaaDoorHb
namespace Go.Proofs.YtlhebogbbkjahaaDoor
open Go.RowKit Cop
set_option linter.unusedVariables false
set_option linter.unusedSimpArgs false
theorem info_h8 : (Tryd.prog.info? 157).map (·.size) = some 8 := by kernel_rfl
theorem info_b64 : (Tryd.prog.info? 175).map (·.size) = some 64 := by kernel_rfl
theorem info_w64 : (Tryd.prog.info? 176).map (·.size) = some 64 := by kernel_rfl
/-- The rows of Compress: its argument, its result, the schedule, the table, the words. -/
structure CRow (tt : TypeId) (w : World) (B G : Nat) (h : H8) (ws : List UInt32) (s : H8) : Prop where
  r0 : w.heap[B]? = some (.cells (hv h) 157 (0, 0))
  r2 : w.heap[B + 2]? = some (.cells (wv (List.replicate 8 0)) 157 (0, 0))
  rW : w.heap[G]? = some (.cells (wv ws) 176 (0, 0))
  rT : w.heap[0]? = some (.cells (wv kst) tt (0, 0))
  r1 : w.heap[G + 1]? = some (.cells (hv s) 157 (0, 0))
theorem CRow.drN {tt : TypeId} {w w2 : World} {B G n : Nat} {h : H8} {ws : List UInt32} {s : H8} (c : CRow tt w B G h ws s) (e : w.drewN n = w2) : CRow tt w2 B G h ws s := by
  subst e; exact ⟨c.r0, c.r2, c.rW, c.rT, c.r1⟩
theorem CRow.cells {tt : TypeId} {w : World} {B G : Nat} {h : H8} {ws : List UInt32} {s : H8} (c : CRow tt w B G h ws s) :
    w.cell? ⟨G + 1, 0, none⟩ = some (.int .u32 s.a.toNat) ∧ w.cell? ⟨G + 1, 1, none⟩ = some (.int .u32 s.b.toNat) ∧ w.cell? ⟨G + 1, 2, none⟩ = some (.int .u32 s.c.toNat) ∧ w.cell? ⟨G + 1, 3, none⟩ = some (.int .u32 s.d.toNat) ∧
    w.cell? ⟨G + 1, 4, none⟩ = some (.int .u32 s.e.toNat) ∧ w.cell? ⟨G + 1, 5, none⟩ = some (.int .u32 s.f.toNat) ∧ w.cell? ⟨G + 1, 6, none⟩ = some (.int .u32 s.g.toNat) ∧ w.cell? ⟨G + 1, 7, none⟩ = some (.int .u32 s.h.toNat) :=
  ⟨row_hv c.r1 0 _ rfl, row_hv c.r1 1 _ rfl, row_hv c.r1 2 _ rfl, row_hv c.r1 3 _ rfl, row_hv c.r1 4 _ rfl, row_hv c.r1 5 _ rfl, row_hv c.r1 6 _ rfl, row_hv c.r1 7 _ rfl⟩
set_option maxRecDepth 100000 in
set_option maxHeartbeats 4000000 in
theorem compress_a {tt : TypeId} (h : H8) (b : List UInt8) (w : World) (hb : b.length = 64) (hT : w.heap[0]? = some (.cells (wv kst) tt (0, 0))) :
    Calls Tryd.prog 97 #[.agg (hv h), .agg (bv b)] w fun e w' => e = .returned (.agg (hv (compress h b))) ∧ Below w.heap.size w w' := by
  have hsb : (Tryd.prog.info? 175).map (·.size) = some (bv b).size := by rw [bv_size, hb]; exact info_b64
  have HT := Lib.hid hT
  have HBL := Lib.hid hb
  clear hT hb
  go_enter Tryd.func97, Tryd.ntmps97
  generalize hH : hv h = vh
  have hsh : (Tryd.prog.info? 157).map (·.size) = some vh.size := by rw [← hH]; exact info_h8
  go_wp2_with (refine wl_load_row rfl 175 _ rfl (w.heap.size + 1) rfl 175 (bv b) (0, 0) _ (by (repeat (first | refine Cop.at_new _ _ _ (by simp) | refine Cop.at_old _ _ _ (by simp <;> omega) ?_ | refine Cop.at_old _ _ _ (by simp) ?_))) Tryd.underlying175 rfl hsb ?_)
  first | refine Cop.wl_world fun w1 hw1 => ?_ | refine Cop.calls_world fun w1 hw1 => ?_ | refine Cop.exit_world fun w1 hw1 => ?_ | refine Cop.code_world fun w1 hw1 => ?_
  have r0 : w1.heap[w.heap.size]? = some (.cells vh 157 (0, 0)) := by rw [← hw1]; (repeat (first | refine Cop.at_new _ _ _ (by simp) | refine Cop.at_old _ _ _ (by simp <;> omega) ?_ | refine Cop.at_old _ _ _ (by simp) ?_))
  have r2 : w1.heap[w.heap.size + 2]? = some (.cells (wv (List.replicate 8 0)) 157 (0, 0)) := by rw [← hw1]; (repeat (first | refine Cop.at_new _ _ _ (by simp) | refine Cop.at_old _ _ _ (by simp <;> omega) ?_ | refine Cop.at_old _ _ _ (by simp) ?_))
  have b1 : Below w.heap.size w w1 := by rw [← hw1]; exact (((Below.refl _ _).alloc (Nat.le_refl _) _).alloc (by simp) _).alloc (by simp; omega) _
  have z1 : w1.heap.size = w.heap.size + 3 := by rw [← hw1]; simp
  clear hw1
  refine (schedule_a b _ HBL.out).mono ?_
  rintro e w2 ⟨rfl, b2⟩
  have s2 : (wv (sched b 64)).size = 64 := by rw [wv_size, sched_length]
  have i2 : (Tryd.prog.info? 176).map (·.size) = some (wv (sched b 64)).size := by rw [s2]; exact info_w64
  go_wp2_with (refine wl_store_row rfl 176 _ _ rfl w2.heap.size rfl 176 _ _ rfl (at_new _ _ _ rfl) i2 s2.symm (wv_one _) ?_; refine Cop.wl_unstop ?_)
  refine Cop.restop ?_
  first | refine Cop.wl_world fun w3 hw3 => ?_ | refine Cop.calls_world fun w3 hw3 => ?_ | refine Cop.exit_world fun w3 hw3 => ?_ | refine Cop.code_world fun w3 hw3 => ?_
  replace r0 : w3.heap[w.heap.size]? = some (.cells vh 157 (0, 0)) := by rw [← hw3]; exact set_other _ (by have := b2.size; omega) (at_old _ _ _ (by have := b2.size; omega) (kept_row b2 r0))
  replace r2 : w3.heap[w.heap.size + 2]? = some (.cells (wv (List.replicate 8 0)) 157 (0, 0)) := by rw [← hw3]; exact set_other _ (by have := b2.size; omega) (at_old _ _ _ (by have := b2.size; omega) (kept_row b2 r2))
  have rT : w3.heap[0]? = some (.cells (wv kst) tt (0, 0)) := by
    have h0 := (Array.getElem?_eq_some_iff.1 HT.out).1
    have := b2.size
    rw [← hw3]; exact set_other _ (by omega) (at_old _ _ _ (by omega) (kept_row b2 (kept_row b1 HT.out)))
  have rW : w3.heap[w2.heap.size]? = some (.cells (wv (sched b 64)) 176 (0, 0)) := by rw [← hw3]; exact setRow_heap _ _ _ _ _ _ (at_new _ _ _ rfl)
  have b3 : Below w.heap.size w w3 := by rw [← hw3]; exact below_setRow ((b1.trans (b2.mono (by omega))).alloc (by have := b2.size; omega) _) (by have := b2.size; omega) _
  have z3 : w3.heap.size = w2.heap.size + 1 := by rw [← hw3]; simp
  have z2 : w.heap.size + 3 ≤ w2.heap.size := by have := b2.size; omega
  clear hw3 b2 b1 z1
  generalize w2.heap.size = G at rW z2 z3 ⊢
  go_wp2_with (first | (refine wl_load_row rfl 157 _ rfl w.heap.size rfl 157 vh (0, 0) _ r0 Tryd.underlying157 rfl hsh ?_) | (refine wl_store_row rfl 157 _ _ rfl (G + 1) rfl 157 _ _ rfl (at_new _ _ _ (by omega)) hsh (by rw [← hH]; rfl) (by rw [← hH]; exact hv_one h) ?_; refine Cop.wl_unstop ?_))
  refine Cop.restop ?_
  first | refine Cop.wl_world fun w4 hw4 => ?_ | refine Cop.calls_world fun w4 hw4 => ?_ | refine Cop.exit_world fun w4 hw4 => ?_ | refine Cop.code_world fun w4 hw4 => ?_
  have r1 : w4.heap[G + 1]? = some (.cells vh 157 (0, 0)) := by rw [← hw4]; exact setRow_heap _ _ _ _ _ _ (at_new _ _ _ (by omega))
  replace r0 : w4.heap[w.heap.size]? = some (.cells vh 157 (0, 0)) := by rw [← hw4]; exact set_other _ (by omega) (at_old _ _ _ (by omega) r0)
  replace r2 : w4.heap[w.heap.size + 2]? = some (.cells (wv (List.replicate 8 0)) 157 (0, 0)) := by rw [← hw4]; exact set_other _ (by omega) (at_old _ _ _ (by omega) r2)
  replace rW : w4.heap[G]? = some (.cells (wv (sched b 64)) 176 (0, 0)) := by rw [← hw4]; exact set_other _ (by omega) (at_old _ _ _ (by omega) rW)
  have h0 := (Array.getElem?_eq_some_iff.1 HT.out).1
  replace rT : w4.heap[0]? = some (.cells (wv kst) tt (0, 0)) := by rw [← hw4]; exact set_other _ (by omega) (at_old _ _ _ (by omega) rT)
  have b4 : Below w.heap.size w w4 := by rw [← hw4]; exact below_setRow (b3.alloc (by omega) _) (by omega) _
  clear hw4 b3
  clear z3
  subst hH
  go_wp2
  go_loopw [16] (fun s wr => ∃ t : Nat, t ≤ 64 ∧ s = .int .i64 t ∧ Below w.heap.size w wr ∧ CRow tt wr w.heap.size G h (sched b 64) (rounds (sched b 64) h t)) (fun s _ => 64 - (intOf s).toNat)
  case atStart => exact ⟨0, by omega, rfl, b4, r0, r2, rW, rT, r1⟩
  case round =>
    clear r0 r2 rW rT r1 b4
    obtain ⟨t, ht, rfl, bb, R⟩ := hrel
    by_cases hlt : t < 64
    · have HR := Lib.hid (show rounds (sched b 64) h (t + 1) = round (rounds (sched b 64) h t) (kst.getD t 0) ((sched b 64).getD t 0) from rfl)
      have ht64 : (t : Int) < 64 := by omega
      generalize rounds (sched b 64) h t = s at R HR
      obtain ⟨kk, hkk⟩ : ∃ kk, kst.getD t 0 = kk := ⟨_, rfl⟩
      obtain ⟨ww, hww⟩ : ∃ ww, (sched b 64).getD t 0 = ww := ⟨_, rfl⟩
      rw [hkk, hww] at HR
      have HK := Lib.hid hkk
      have HW := Lib.hid hww
      clear hkk hww
      have RR := Lib.hid R
      obtain ⟨c0, c1, c2, c3, c4, c5, c6, c7⟩ := R.cells
      clear R
      go_wp2
      go_quiet (fail)
      go_wp2
      clear c0 c1 c2 c3 c4 c5 c6 c7
      first | refine Cop.wl_world fun w5 hw5 => ?_ | refine Cop.calls_world fun w5 hw5 => ?_ | refine Cop.exit_world fun w5 hw5 => ?_ | refine Cop.code_world fun w5 hw5 => ?_
      have R := RR.out.drN hw5
      replace bb := below_dN hw5 bb
      have ck := row_wv R.rT t (by rw [kst_length]; exact hlt)
      have cw := row_wv R.rW t (by rw [sched_length]; exact hlt)
      rw [HK.out] at ck
      rw [HW.out] at cw
      clear RR hw5
      have RR := Lib.hid R
      obtain ⟨c0, c1, c2, c3, c4, c5, c6, c7⟩ := R.cells
      clear R
      go_quiet (first | exact Calls.quiet_of_same (ror_aq _ 6 _ _ rfl (by omega) (by omega)) | exact Calls.quiet_of_same (ror_aq _ 11 _ _ rfl (by omega) (by omega)) | exact Calls.quiet_of_same (ror_aq _ 25 _ _ rfl (by omega) (by omega)))
      simp only [Cop.bxor32, Cop.band32, Cop.bnotw, Cop.add5, Cop.add4, Cop.add3, Cop.wadd32', Cop.wadd32]
      obtain ⟨u, hu⟩ : ∃ u, uOf s kk ww = u := ⟨_, rfl⟩
      have HU := Lib.hid hu
      unfold uOf at hu
      rw [hu]
      clear hu
      (repeat (first | (generalize (_ ^^^ _ : UInt32) = zz; fail_if_success clear zz) | (generalize (_ &&& _ : UInt32) = zz; fail_if_success clear zz) | (generalize (_ + _ : UInt32) = zz; fail_if_success clear zz) | (generalize (_ ||| _ : UInt32) = zz; fail_if_success clear zz) | (generalize (~~~ _ : UInt32) = zz; fail_if_success clear zz) | (generalize (_ >>> _ : UInt32) = zz; fail_if_success clear zz) | (generalize (_ <<< _ : UInt32) = zz; fail_if_success clear zz)))
      go_wp2
      clear c0 c1 c2 c3 c4 c5 c6 c7 ck cw
      first | refine Cop.wl_world fun w6 hw6 => ?_ | refine Cop.calls_world fun w6 hw6 => ?_ | refine Cop.exit_world fun w6 hw6 => ?_ | refine Cop.code_world fun w6 hw6 => ?_
      have R := RR.out.drN hw6
      replace bb := below_dN hw6 bb
      clear RR hw6
      have RR := Lib.hid R
      obtain ⟨c0, c1, c2, c3, c4, c5, c6, c7⟩ := R.cells
      clear R
      go_quiet (first | exact Calls.quiet_of_same (ror_aq _ 2 _ _ rfl (by omega) (by omega)) | exact Calls.quiet_of_same (ror_aq _ 13 _ _ rfl (by omega) (by omega)) | exact Calls.quiet_of_same (ror_aq _ 22 _ _ rfl (by omega) (by omega)))
      simp only [Cop.bxor32, Cop.band32, Cop.bnotw, Cop.add5, Cop.add4, Cop.add3, Cop.wadd32', Cop.wadd32]
      obtain ⟨v, hv'⟩ : ∃ v, vOf s = v := ⟨_, rfl⟩
      have HV := Lib.hid hv'
      unfold vOf at hv'
      rw [hv']
      clear hv'
      (repeat (first | (generalize (_ ^^^ _ : UInt32) = zz; fail_if_success clear zz) | (generalize (_ &&& _ : UInt32) = zz; fail_if_success clear zz) | (generalize (_ + _ : UInt32) = zz; fail_if_success clear zz) | (generalize (_ ||| _ : UInt32) = zz; fail_if_success clear zz) | (generalize (~~~ _ : UInt32) = zz; fail_if_success clear zz) | (generalize (_ >>> _ : UInt32) = zz; fail_if_success clear zz) | (generalize (_ <<< _ : UInt32) = zz; fail_if_success clear zz)))
      obtain ⟨p, hp⟩ : ∃ p, u + v = p := ⟨_, rfl⟩
      obtain ⟨q, hq⟩ : ∃ q, s.d + u = q := ⟨_, rfl⟩
      have HP := Lib.hid hp
      have HQ := Lib.hid hq
      clear hp hq c0 c1 c2 c3 c4 c5 c6 c7
      first | refine Cop.wl_world fun w7 hw7 => ?_ | refine Cop.calls_world fun w7 hw7 => ?_ | refine Cop.exit_world fun w7 hw7 => ?_ | refine Cop.code_world fun w7 hw7 => ?_
      have R := RR.out.drN hw7
      replace bb := below_dN hw7 bb
      clear RR hw7
      have RR := Lib.hid R
      obtain ⟨c0, c1, c2, c3, c4, c5, c6, c7⟩ := R.cells
      clear R
      go_wp2_with (first | refine wl_add32 rfl 156 156 _ _ rfl u v p HP.out rfl rfl ?_ | refine wl_add32 rfl 156 156 _ _ rfl s.d u q HQ.out rfl rfl ?_ | (refine wl_store_row rfl 157 _ _ rfl (G + 1) rfl 157 (hv s) (hv ⟨p, s.a, s.b, s.c, q, s.e, s.f, s.g⟩) rfl RR.out.r1 info_h8 rfl (hv_one _) ?_; refine Cop.wl_unstop ?_))
      refine Cop.restop ?_
      have HS : (⟨p, s.a, s.b, s.c, q, s.e, s.f, s.g⟩ : H8) = rounds (sched b 64) h (t + 1) := by
        rw [HR.out, round, HU.out, HV.out, HP.out, HQ.out]
      rw [HS]
      clear HS
      first | refine Cop.wl_world fun w8 hw8 => ?_ | refine Cop.calls_world fun w8 hw8 => ?_ | refine Cop.exit_world fun w8 hw8 => ?_ | refine Cop.code_world fun w8 hw8 => ?_
      have R8 : CRow tt w8 w.heap.size G h (sched b 64) (rounds (sched b 64) h (t + 1)) := by
        have R := RR.out
        rw [← hw8]
        exact ⟨set_other _ (by omega) R.r0, set_other _ (by omega) R.r2, set_other _ (by omega) R.rW, set_other _ (by omega) R.rT, setRow_heap _ _ _ _ _ _ R.r1⟩
      have b8 : Below w.heap.size w w8 := by rw [← hw8]; exact below_setRow bb (by omega) _
      clear hw8 RR bb c0 c1 c2 c3 c4 c5 c6 c7
      have RR := Lib.hid R8
      clear R8
      go_wp2
      go_roundw
      case rel => exact ⟨t + 1, by omega, by go_num, b8, RR.out⟩
      case measure => simp [intOf]; omega
    · have ht64 : t = 64 := by omega
      have H64 := Lib.hid ht64
      have hge : ¬ ((t : Int) < 64) := by omega
      clear ht64 hlt ht
      generalize hr : rounds (sched b 64) h t = s at R
      have HR := Lib.hid hr
      clear hr
      have RR := Lib.hid R
      clear R
      go_wp2
      go_loopw [98] (fun x wr => ∃ i : Nat, i ≤ 8 ∧ x = .int .i64 i ∧ Below w.heap.size w wr ∧ wr.heap[w.heap.size]? = some (.cells (hv h) 157 (0, 0)) ∧ wr.heap[w.heap.size + 2]? = some (.cells (wv (List.replicate 8 0)) 157 (0, 0)) ∧
        wr.heap[G + 1]? = some (.cells (wv (mix s h i)) 157 (0, 0))) (fun x _ => 8 - (intOf x).toNat)
      case atStart => exact ⟨0, by omega, rfl, bb, RR.out.r0, RR.out.r2, by rw [mix_zero, ← hv_wv]; exact RR.out.r1⟩
      case round =>
        clear RR bb
        obtain ⟨i, hi, rfl, bb, r0, r2, r1⟩ := hrel
        by_cases hlt : i < 8
        · have ci := row_wv r1 i (by rw [mix_length _ _ _ (by omega)]; exact hlt)
          rw [mix_at _ _ _ hlt] at ci
          have di : wr.cell? ⟨w.heap.size, i, none⟩ = some (.int .u32 ((h.l.getD i 0).toNat : Int)) := by rw [row_cell r0, hv_get _ _ hlt]
          have HM := Lib.hid (mix_set s h i hlt)
          have fi := row_thaw r1 i
          have R0 := Lib.hid r0
          have R2 := Lib.hid r2
          have R1 := Lib.hid r1
          clear r0 r2 r1
          generalize s.l.getD i 0 = x at ci HM
          generalize h.l.getD i 0 = y at di HM
          have hi8 : (i : Int) < 8 := by omega
          go_wp2
          go_still_tail 8, (by kernel_rfl)
          simp only [Cop.bxor32, Cop.band32, Cop.bnotw, Cop.add5, Cop.add4, Cop.add3, Cop.wadd32', Cop.wadd32]
          generalize x + y = z at HM ⊢
          first | refine Cop.wl_world fun w9 hw9 => ?_ | refine Cop.calls_world fun w9 hw9 => ?_ | refine Cop.exit_world fun w9 hw9 => ?_ | refine Cop.code_world fun w9 hw9 => ?_
          have c5 : w9.cell? ⟨G + 1, i, none⟩ = some (.int .u32 x.toNat) := by rw [← hw9]; exact ci
          have f5 : w9.frozen? ⟨G + 1, i, none⟩ = false := by rw [← hw9]; exact fi
          have hw9' : wr.drew = w9 := hw9
          clear hw9 ci fi di
          have HW9 := Lib.hid hw9'
          clear hw9'
          go_wp2
          go_roundw
          case rel =>
            refine ⟨i + 1, by omega, by go_num, (below_d HW9.out bb).setCell (by simp; omega) _, row_skip (by omega) _ _ (row_of_drew HW9.out R0.out), row_skip (by omega) _ _ (row_of_drew HW9.out R2.out), ?_⟩
            rw [row_set (row_of_drew HW9.out R1.out), wv_set, HM.out]
          case measure => simp [intOf]; omega
        · have hi8 : i = 8 := by omega
          subst hi8
          clear hlt
          rw [mix_all, ← hv_wv] at r1
          have R0 := Lib.hid r0
          have R2 := Lib.hid r2
          have R1 := Lib.hid r1
          clear r0 r2 r1
          go_wp2_with (first | refine wl_load_row rfl 157 _ rfl (G + 1) rfl 157 (hv (s.add h)) (0, 0) _ R1.out Tryd.underlying157 rfl info_h8 ?_ | refine wl_store_row rfl 157 _ _ rfl (w.heap.size + 2) rfl 157 (wv (List.replicate 8 0)) (hv (s.add h)) rfl R2.out info_h8 (by rw [wv_size]; rfl) (hv_one _) ?_)
          refine ret_row rfl rfl (w.heap.size + 2) rfl 157 (hv (s.add h)) (0, 0) _ (setRow_heap _ _ _ _ _ _ R2.out) Tryd.underlying157 rfl info_h8 ⟨?_, below_setRow bb (by omega) _⟩
          have hr := HR.out
          rw [H64.out] at hr
          rw [compress, hr]
end Go.Proofs.YtlhebogbbkjahaaDoor
