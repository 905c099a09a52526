import Derived.Test.YtlhebogbbkjahaaDoorHf
namespace Go.Proofs.YtlhebogbbkjahaaDoor
open Go.RowKit Cop
set_option linter.unusedVariables false
set_option linter.unusedSimpArgs false
/-- Eight words, shifted behind one another from the end down to place i. -/
def shf (s : H8) (i : Nat) : List UInt32 := s.l.take (i + 1) ++ (s.l.drop i).take (7 - i)
theorem shf_start (s : H8) : shf s 7 = s.l := by simp [shf, H8.l]
theorem shf_end (s : H8) : shf s 0 = [s.a, s.a, s.b, s.c, s.d, s.e, s.f, s.g] := by simp [shf, H8.l]
theorem shf_length (s : H8) (i : Nat) (hi : i ≤ 7) : (shf s i).length = 8 := by simp [shf, H8.l]; omega
theorem shf_at (s : H8) (i : Nat) (hi : i < 7) : (shf s (i + 1)).getD i 0 = s.l.getD i 0 := by
  have : ∀ i : Fin 7, (shf s (i.val + 1)).getD i.val 0 = s.l.getD i.val 0 := by
    intro i; match i with
    | 0 => rfl
    | 1 => rfl
    | 2 => rfl
    | 3 => rfl
    | 4 => rfl
    | 5 => rfl
    | 6 => rfl
  exact this ⟨i, hi⟩
theorem shf_set (s : H8) (i : Nat) (hi : i < 7) : (shf s (i + 1)).set (i + 1) (s.l.getD i 0) = shf s i := by
  have : ∀ i : Fin 7, (shf s (i.val + 1)).set (i.val + 1) (s.l.getD i.val 0) = shf s i.val := by
    intro i; match i with
    | 0 => rfl
    | 1 => rfl
    | 2 => rfl
    | 3 => rfl
    | 4 => rfl
    | 5 => rfl
    | 6 => rfl
  exact this ⟨i, hi⟩
/-- The rows of the reference's Compress. -/
structure CRowB (w : World) (B G K : Nat) (h : H8) (ws : List UInt32) (l : List UInt32) : Prop where
  r0 : w.heap[B]? = some (.cells (hv h) 157 (0, 0))
  r2 : w.heap[B + 2]? = some (.cells (wv (List.replicate 8 0)) 157 (0, 0))
  rW : w.heap[G]? = some (.cells (wv ws) 176 (0, 0))
  rT : w.heap[K]? = some (.cells (wv kst) 176 (0, 0))
  r1 : w.heap[K + 1]? = some (.cells (wv l) 157 (0, 0))
theorem CRowB.drN {w w2 : World} {B G K n : Nat} {h : H8} {ws : List UInt32} {s : List UInt32} (c : CRowB w B G K h ws s) (e : w.drewN n = w2) : CRowB w2 B G K h ws s := by
  subst e; exact ⟨c.r0, c.r2, c.rW, c.rT, c.r1⟩
theorem CRowB.set {w : World} {B G K : Nat} {h : H8} {ws : List UInt32} {l : List UInt32} (c : CRowB w B G K h ws l) (h1 : B + 3 ≤ G) (h2 : G + 1 ≤ K) (i : Nat) (x : UInt32) (m : List UInt32) (hm : l.set i x = m) : CRowB (w.setCell ⟨K + 1, i, none⟩ (.int .u32 x.toNat)) B G K h ws m :=
  ⟨row_skip (by omega) _ _ c.r0, row_skip (by omega) _ _ c.r2, row_skip (by omega) _ _ c.rW, row_skip (by omega) _ _ c.rT, by rw [row_set c.r1, wv_set, hm]⟩
theorem CRowB.cells {w : World} {B G K : Nat} {h : H8} {ws : List UInt32} {s : H8} (c : CRowB w B G K h ws s.l) :
    w.cell? ⟨K + 1, 0, none⟩ = some (.int .u32 s.a.toNat) ∧ w.cell? ⟨K + 1, 1, none⟩ = some (.int .u32 s.b.toNat) ∧ w.cell? ⟨K + 1, 2, none⟩ = some (.int .u32 s.c.toNat) ∧ w.cell? ⟨K + 1, 3, none⟩ = some (.int .u32 s.d.toNat) ∧
    w.cell? ⟨K + 1, 4, none⟩ = some (.int .u32 s.e.toNat) ∧ w.cell? ⟨K + 1, 5, none⟩ = some (.int .u32 s.f.toNat) ∧ w.cell? ⟨K + 1, 6, none⟩ = some (.int .u32 s.g.toNat) ∧ w.cell? ⟨K + 1, 7, none⟩ = some (.int .u32 s.h.toNat) :=
  have c1 : w.heap[K + 1]? = some (.cells (hv s) 157 (0, 0)) := c.r1
  ⟨row_hv c1 0 _ rfl, row_hv c1 1 _ rfl, row_hv c1 2 _ rfl, row_hv c1 3 _ rfl, row_hv c1 4 _ rfl, row_hv c1 5 _ rfl, row_hv c1 6 _ rfl, row_hv c1 7 _ rfl⟩
set_option maxRecDepth 100000 in
set_option maxHeartbeats 4000000 in
theorem compress_b (h : H8) (b : List UInt8) (w : World) (hb : b.length = 64) :
    Calls Tryd.prog 98 #[.agg (hv h), .agg (bv b)] w fun e w' => e = .returned (.agg (hv (compress h b))) ∧ Below w.heap.size w w' := by
  have hsb : (Tryd.prog.info? 175).map (·.size) = some (bv b).size := by rw [bv_size, hb]; exact info_b64
  have HBL := Lib.hid hb
  clear hb
  go_enter Tryd.func98, Tryd.ntmps98
  generalize hH : hv h = vh
  have hsh : (Tryd.prog.info? 157).map (·.size) = some vh.size := by rw [← hH]; exact info_h8
  go_wp2_with (refine wl_load_row rfl 175 _ rfl (w.heap.size + 1) rfl 175 (bv b) (0, 0) _ (by (repeat (first | refine Cop.at_new _ _ _ (by simp) | refine Cop.at_old _ _ _ (by simp <;> omega) ?_ | refine Cop.at_old _ _ _ (by simp) ?_))) Tryd.underlying175 rfl hsb ?_)
  first | refine Cop.wl_world fun w1 hw1 => ?_ | refine Cop.calls_world fun w1 hw1 => ?_ | refine Cop.exit_world fun w1 hw1 => ?_ | refine Cop.code_world fun w1 hw1 => ?_
  have r0 : w1.heap[w.heap.size]? = some (.cells vh 157 (0, 0)) := by rw [← hw1]; (repeat (first | refine Cop.at_new _ _ _ (by simp) | refine Cop.at_old _ _ _ (by simp <;> omega) ?_ | refine Cop.at_old _ _ _ (by simp) ?_))
  have r2 : w1.heap[w.heap.size + 2]? = some (.cells (wv (List.replicate 8 0)) 157 (0, 0)) := by rw [← hw1]; (repeat (first | refine Cop.at_new _ _ _ (by simp) | refine Cop.at_old _ _ _ (by simp <;> omega) ?_ | refine Cop.at_old _ _ _ (by simp) ?_))
  have b1 : Below w.heap.size w w1 := by rw [← hw1]; exact (((Below.refl _ _).alloc (Nat.le_refl _) _).alloc (by simp) _).alloc (by simp; omega) _
  have z1 : w1.heap.size = w.heap.size + 3 := by rw [← hw1]; simp
  clear hw1
  refine (schedule_b b _ HBL.out).mono ?_
  rintro e w2 ⟨rfl, b2⟩
  have s2 : (wv (sched b 64)).size = 64 := by rw [wv_size, sched_length]
  have i2 : (Tryd.prog.info? 176).map (·.size) = some (wv (sched b 64)).size := by rw [s2]; exact info_w64
  go_wp2_with (refine wl_store_row rfl 176 _ _ rfl w2.heap.size rfl 176 _ _ rfl (at_new _ _ _ rfl) i2 s2.symm (wv_one _) ?_; refine Cop.wl_unstop ?_)
  refine Cop.restop ?_
  first | refine Cop.wl_world fun w3 hw3 => ?_ | refine Cop.calls_world fun w3 hw3 => ?_ | refine Cop.exit_world fun w3 hw3 => ?_ | refine Cop.code_world fun w3 hw3 => ?_
  replace r0 : w3.heap[w.heap.size]? = some (.cells vh 157 (0, 0)) := by rw [← hw3]; exact set_other _ (by have := b2.size; omega) (at_old _ _ _ (by have := b2.size; omega) (kept_row b2 r0))
  replace r2 : w3.heap[w.heap.size + 2]? = some (.cells (wv (List.replicate 8 0)) 157 (0, 0)) := by rw [← hw3]; exact set_other _ (by have := b2.size; omega) (at_old _ _ _ (by have := b2.size; omega) (kept_row b2 r2))
  have rW : w3.heap[w2.heap.size]? = some (.cells (wv (sched b 64)) 176 (0, 0)) := by rw [← hw3]; exact setRow_heap _ _ _ _ _ _ (at_new _ _ _ rfl)
  have b3 : Below w.heap.size w w3 := by rw [← hw3]; exact below_setRow ((b1.trans (b2.mono (by omega))).alloc (by have := b2.size; omega) _) (by have := b2.size; omega) _
  have z3 : w3.heap.size = w2.heap.size + 1 := by rw [← hw3]; simp
  have z2 : w.heap.size + 3 ≤ w2.heap.size := by have := b2.size; omega
  clear hw3 b2 b1 z1
  generalize w2.heap.size = G at rW z2 z3 ⊢
  have Z3 := Lib.hid z3
  clear z3
  go_wp2_with fail
  refine (constants_b _).mono ?_
  rintro e w4 ⟨rfl, b4⟩
  go_wp2_with (refine wl_store_row rfl 176 _ _ rfl w4.heap.size rfl 176 _ (wv kst) rfl (at_new _ _ _ rfl) info_w64 rfl (wv_one _) ?_; refine Cop.wl_unstop ?_)
  refine Cop.restop ?_
  first | refine Cop.wl_world fun w5 hw5 => ?_ | refine Cop.calls_world fun w5 hw5 => ?_ | refine Cop.exit_world fun w5 hw5 => ?_ | refine Cop.code_world fun w5 hw5 => ?_
  have z43 := b4.size
  replace r0 : w5.heap[w.heap.size]? = some (.cells vh 157 (0, 0)) := by have := Z3.out; rw [← hw5]; exact set_other _ (by omega) (at_old _ _ _ (by omega) (kept_row b4 r0))
  replace r2 : w5.heap[w.heap.size + 2]? = some (.cells (wv (List.replicate 8 0)) 157 (0, 0)) := by have := Z3.out; rw [← hw5]; exact set_other _ (by omega) (at_old _ _ _ (by omega) (kept_row b4 r2))
  replace rW : w5.heap[G]? = some (.cells (wv (sched b 64)) 176 (0, 0)) := by have := Z3.out; rw [← hw5]; exact set_other _ (by omega) (at_old _ _ _ (by omega) (kept_row b4 rW))
  have rT : w5.heap[w4.heap.size]? = some (.cells (wv kst) 176 (0, 0)) := by rw [← hw5]; exact setRow_heap _ _ _ _ _ _ (at_new _ _ _ rfl)
  have b5 : Below w.heap.size w w5 := by have := Z3.out; rw [← hw5]; exact below_setRow ((b3.trans (b4.mono (by omega))).alloc (by omega) _) (by omega) _
  have z5 : w5.heap.size = w4.heap.size + 1 := by rw [← hw5]; simp
  have zK : G + 1 ≤ w4.heap.size := by have := Z3.out; omega
  clear hw5 b4 b3 z43
  generalize w4.heap.size = K at rT z5 zK ⊢
  go_wp2_with (first | (refine wl_load_row rfl 157 _ rfl w.heap.size rfl 157 vh (0, 0) _ r0 Tryd.underlying157 rfl hsh ?_) | (refine wl_store_row rfl 157 _ _ rfl (K + 1) rfl 157 _ _ rfl (at_new _ _ _ (by omega)) hsh (by rw [← hH]; rfl) (by rw [← hH]; exact hv_one h) ?_; refine Cop.wl_unstop ?_))
  refine Cop.restop ?_
  first | refine Cop.wl_world fun w6 hw6 => ?_ | refine Cop.calls_world fun w6 hw6 => ?_ | refine Cop.exit_world fun w6 hw6 => ?_ | refine Cop.code_world fun w6 hw6 => ?_
  have r1 : w6.heap[K + 1]? = some (.cells vh 157 (0, 0)) := by rw [← hw6]; exact setRow_heap _ _ _ _ _ _ (at_new _ _ _ (by omega))
  replace r0 : w6.heap[w.heap.size]? = some (.cells vh 157 (0, 0)) := by rw [← hw6]; exact set_other _ (by omega) (at_old _ _ _ (by omega) r0)
  replace r2 : w6.heap[w.heap.size + 2]? = some (.cells (wv (List.replicate 8 0)) 157 (0, 0)) := by rw [← hw6]; exact set_other _ (by omega) (at_old _ _ _ (by omega) r2)
  replace rW : w6.heap[G]? = some (.cells (wv (sched b 64)) 176 (0, 0)) := by rw [← hw6]; exact set_other _ (by omega) (at_old _ _ _ (by omega) rW)
  replace rT : w6.heap[K]? = some (.cells (wv kst) 176 (0, 0)) := by rw [← hw6]; exact set_other _ (by omega) (at_old _ _ _ (by omega) rT)
  have b6 : Below w.heap.size w w6 := by rw [← hw6]; exact below_setRow (b5.alloc (by omega) _) (by omega) _
  clear hw6 b5 z5
  subst hH
  go_wp2
  go_loopw [8] (fun x wr => ∃ t : Nat, t ≤ 64 ∧ x = .int .i64 t ∧ Below w.heap.size w wr ∧ CRowB wr w.heap.size G K h (sched b 64) (rounds (sched b 64) h t).l) (fun x _ => 64 - (intOf x).toNat)
  case atStart => exact ⟨0, by omega, rfl, b6, r0, r2, rW, rT, r1⟩
  case round =>
    clear r0 r2 rW rT r1 b6
    obtain ⟨t, ht, rfl, bb, R⟩ := hrel
    by_cases hlt : t < 64
    · have HR := Lib.hid (show rounds (sched b 64) h (t + 1) = round (rounds (sched b 64) h t) (kst.getD t 0) ((sched b 64).getD t 0) from rfl)
      have ht64 : (t : Int) < 64 := by omega
      generalize rounds (sched b 64) h t = s at R HR
      obtain ⟨kk, hkk⟩ : ∃ kk, kst.getD t 0 = kk := ⟨_, rfl⟩
      obtain ⟨ww, hww⟩ : ∃ ww, (sched b 64).getD t 0 = ww := ⟨_, rfl⟩
      rw [hkk, hww] at HR
      have ck := row_wv R.rT t (by rw [kst_length]; exact hlt)
      have cw := row_wv R.rW t (by rw [sched_length]; exact hlt)
      rw [hkk] at ck
      rw [hww] at cw
      clear hkk hww
      have RR := Lib.hid R
      obtain ⟨c0, c1, c2, c3, c4, c5, c6, c7⟩ := R.cells
      clear R
      go_wp2
      go_quiet (first | exact Calls.quiet_of_same (ror_bq _ 6 _ _ rfl (by omega) (by omega)) | exact Calls.quiet_of_same (ror_bq _ 11 _ _ rfl (by omega) (by omega)) | exact Calls.quiet_of_same (ror_bq _ 25 _ _ rfl (by omega) (by omega)))
      simp only [Cop.bxor32, Cop.band32, Cop.bnotw, Cop.add5, Cop.add4, Cop.add3, Cop.wadd32', Cop.wadd32]
      obtain ⟨u, hu⟩ : ∃ u, uOf s kk ww = u := ⟨_, rfl⟩
      have HU := Lib.hid hu
      unfold uOf at hu
      rw [hu]
      clear hu
      (repeat (first | (generalize (_ ^^^ _ : UInt32) = zz; fail_if_success clear zz) | (generalize (_ &&& _ : UInt32) = zz; fail_if_success clear zz) | (generalize (_ + _ : UInt32) = zz; fail_if_success clear zz) | (generalize (_ ||| _ : UInt32) = zz; fail_if_success clear zz) | (generalize (~~~ _ : UInt32) = zz; fail_if_success clear zz) | (generalize (_ >>> _ : UInt32) = zz; fail_if_success clear zz) | (generalize (_ <<< _ : UInt32) = zz; fail_if_success clear zz)))
      go_wp2
      clear c0 c1 c2 c3 c4 c5 c6 c7 ck cw
      first | refine Cop.wl_world fun w7 hw7 => ?_ | refine Cop.calls_world fun w7 hw7 => ?_ | refine Cop.exit_world fun w7 hw7 => ?_ | refine Cop.code_world fun w7 hw7 => ?_
      have R := RR.out.drN hw7
      replace bb := below_dN hw7 bb
      clear RR hw7
      have RR := Lib.hid R
      obtain ⟨c0, c1, c2, c3, c4, c5, c6, c7⟩ := R.cells
      clear R
      go_quiet (first | exact Calls.quiet_of_same (ror_bq _ 2 _ _ rfl (by omega) (by omega)) | exact Calls.quiet_of_same (ror_bq _ 13 _ _ rfl (by omega) (by omega)) | exact Calls.quiet_of_same (ror_bq _ 22 _ _ rfl (by omega) (by omega)))
      simp only [Cop.bxor32, Cop.band32, Cop.bnotw, Cop.add5, Cop.add4, Cop.add3, Cop.wadd32', Cop.wadd32]
      obtain ⟨v, hv'⟩ : ∃ v, vOf s = v := ⟨_, rfl⟩
      have HV := Lib.hid hv'
      unfold vOf at hv'
      rw [hv']
      clear hv' c0 c1 c2 c3 c4 c5 c6 c7
      (repeat (first | (generalize (_ ^^^ _ : UInt32) = zz; fail_if_success clear zz) | (generalize (_ &&& _ : UInt32) = zz; fail_if_success clear zz) | (generalize (_ + _ : UInt32) = zz; fail_if_success clear zz) | (generalize (_ ||| _ : UInt32) = zz; fail_if_success clear zz) | (generalize (~~~ _ : UInt32) = zz; fail_if_success clear zz) | (generalize (_ >>> _ : UInt32) = zz; fail_if_success clear zz) | (generalize (_ <<< _ : UInt32) = zz; fail_if_success clear zz)))
      first | refine Cop.wl_world fun w8 hw8 => ?_ | refine Cop.calls_world fun w8 hw8 => ?_ | refine Cop.exit_world fun w8 hw8 => ?_ | refine Cop.code_world fun w8 hw8 => ?_
      have R := RR.out.drN hw8
      replace bb := below_dN hw8 bb
      clear RR hw8
      rw [← shf_start s] at R
      have RR := Lib.hid R
      clear R
      obtain ⟨p, hp⟩ : ∃ p, u + v = p := ⟨_, rfl⟩
      obtain ⟨q, hq⟩ : ∃ q, s.d + u = q := ⟨_, rfl⟩
      have HP := Lib.hid hp
      have HQ := Lib.hid hq
      clear hp hq
      go_wp2
      go_loopw [13] (fun x wr => ∃ i : Nat, i ≤ 7 ∧ x = .int .i64 i ∧ Below w.heap.size w wr ∧ CRowB wr w.heap.size G K h (sched b 64) (shf s i)) (fun x _ => (intOf x).toNat)
      case atStart => exact ⟨7, by omega, rfl, bb, RR.out⟩
      case round =>
        clear RR bb
        obtain ⟨i, hi, rfl, bb, R⟩ := hrel
        cases i with
        | succ i =>
          have ci := row_wv R.r1 i (by rw [shf_length _ _ (by omega)]; omega)
          rw [shf_at _ _ (by omega)] at ci
          obtain ⟨y, di⟩ : ∃ y, wr.cell? ⟨K + 1, i + 1, none⟩ = some y := ⟨_, row_wv R.r1 (i + 1) (by rw [shf_length _ _ (by omega)]; omega)⟩
          have fi := row_thaw R.r1 (i + 1)
          have HM := Lib.hid (shf_set s i (by omega))
          have RR := Lib.hid R
          clear R
          generalize s.l.getD i 0 = x at ci HM
          have hi8 : (i : Int) + 1 < 8 := by omega
          rw [Int.natCast_add, show ((1 : Nat) : Int) = 1 from rfl]
          go_wp2
          go_roundw
          case rel => exact ⟨i, by omega, by go_num, bb.setCell (by simp; omega) _, RR.out.set z2 zK (i + 1) x _ HM.out⟩
          case measure => simp [intOf]
        | zero =>
          rw [shf_end] at R
          have d4 : wr.cell? ⟨K + 1, 4, none⟩ = some (.int .u32 s.d.toNat) := row_wv R.r1 4 (by simp)
          have f4 := row_thaw R.r1 4
          obtain ⟨y0, d0⟩ : ∃ y, wr.cell? ⟨K + 1, 0, none⟩ = some y := ⟨_, row_wv R.r1 0 (by simp)⟩
          have f0 := row_thaw R.r1 0
          have RR := Lib.hid R
          clear R
          go_wp2_with (first | refine wl_add32 rfl 156 156 _ _ rfl s.d u q HQ.out rfl rfl ?_ | refine wl_add32 rfl 156 156 _ _ rfl u v p HP.out rfl rfl ?_)
          refine ⟨⟨t + 1, by omega, by go_num, (bb.setCell (by simp; omega) _).setCell (by simp; omega) _, ?_⟩, by simp [intOf]; omega⟩
          refine (RR.out.set z2 zK 4 q _ rfl).set z2 zK 0 p _ ?_
          rw [HR.out, round, HU.out, HV.out, HP.out, HQ.out]
          rfl
    · have ht64 : t = 64 := by omega
      have H64 := Lib.hid ht64
      have hge : ¬ ((t : Int) < 64) := by omega
      clear ht64 hlt ht
      generalize hr : rounds (sched b 64) h t = s at R
      have HR := Lib.hid hr
      clear hr
      have RR := Lib.hid R
      clear R
      go_wp2
      go_loopw [14] (fun x wr => ∃ i : Nat, i ≤ 8 ∧ x = .int .i64 i ∧ Below w.heap.size w wr ∧ wr.heap[w.heap.size]? = some (.cells (hv h) 157 (0, 0)) ∧ wr.heap[w.heap.size + 2]? = some (.cells (wv (List.replicate 8 0)) 157 (0, 0)) ∧
        wr.heap[K + 1]? = some (.cells (wv (mix s h i)) 157 (0, 0))) (fun x _ => 8 - (intOf x).toNat)
      case atStart => exact ⟨0, by omega, rfl, bb, RR.out.r0, RR.out.r2, by rw [mix_zero]; exact RR.out.r1⟩
      case round =>
        clear RR bb
        obtain ⟨i, hi, rfl, bb, r0, r2, r1⟩ := hrel
        by_cases hlt : i < 8
        · have ci := row_wv r1 i (by rw [mix_length _ _ _ (by omega)]; exact hlt)
          rw [mix_at _ _ _ hlt] at ci
          have di : wr.cell? ⟨w.heap.size, i, none⟩ = some (.int .u32 ((h.l.getD i 0).toNat : Int)) := by rw [row_cell r0, hv_get _ _ hlt]
          have HM := Lib.hid (mix_set s h i hlt)
          have fi := row_thaw r1 i
          have R0 := Lib.hid r0
          have R2 := Lib.hid r2
          have R1 := Lib.hid r1
          clear r0 r2 r1
          generalize s.l.getD i 0 = x at ci HM
          generalize h.l.getD i 0 = y at di HM
          have hi8 : (i : Int) < 8 := by omega
          go_wp2
          go_still_tail 9, (by kernel_rfl)
          simp only [Cop.bxor32, Cop.band32, Cop.bnotw, Cop.add5, Cop.add4, Cop.add3, Cop.wadd32', Cop.wadd32]
          generalize x + y = z at HM ⊢
          first | refine Cop.wl_world fun w9 hw9 => ?_ | refine Cop.calls_world fun w9 hw9 => ?_ | refine Cop.exit_world fun w9 hw9 => ?_ | refine Cop.code_world fun w9 hw9 => ?_
          have c5 : w9.cell? ⟨K + 1, i, none⟩ = some (.int .u32 x.toNat) := by rw [← hw9]; exact ci
          have f5 : w9.frozen? ⟨K + 1, i, none⟩ = false := by rw [← hw9]; exact fi
          have hw9' : wr.drew = w9 := hw9
          clear hw9 ci fi di
          have HW9 := Lib.hid hw9'
          clear hw9'
          go_wp2
          go_roundw
          case rel =>
            refine ⟨i + 1, by omega, by go_num, (below_d HW9.out bb).setCell (by simp; omega) _, row_skip (by omega) _ _ (row_of_drew HW9.out R0.out), row_skip (by omega) _ _ (row_of_drew HW9.out R2.out), ?_⟩
            rw [row_set (row_of_drew HW9.out R1.out), wv_set, HM.out]
          case measure => simp [intOf]; omega
        · have hi8 : i = 8 := by omega
          subst hi8
          clear hlt
          rw [mix_all, ← hv_wv] at r1
          have R0 := Lib.hid r0
          have R2 := Lib.hid r2
          have R1 := Lib.hid r1
          clear r0 r2 r1
          go_wp2_with (first | refine wl_load_row rfl 157 _ rfl (K + 1) rfl 157 (hv (s.add h)) (0, 0) _ R1.out Tryd.underlying157 rfl info_h8 ?_ | refine wl_store_row rfl 157 _ _ rfl (w.heap.size + 2) rfl 157 (wv (List.replicate 8 0)) (hv (s.add h)) rfl R2.out info_h8 (by rw [wv_size]; rfl) (hv_one _) ?_)
          refine ret_row rfl rfl (w.heap.size + 2) rfl 157 (hv (s.add h)) (0, 0) _ (setRow_heap _ _ _ _ _ _ R2.out) Tryd.underlying157 rfl info_h8 ⟨?_, below_setRow bb (by omega) _⟩
          have hr := HR.out
          rw [H64.out] at hr
          rw [compress, hr]
end Go.Proofs.YtlhebogbbkjahaaDoor
