import Derived.Test.YtkgdjddcnlkppaaDoorOb
namespace Go.Proofs.YtkgdjddcnlkppaaDoor
open Go.RowKit Cop
set_option linter.unusedVariables false
set_option linter.unusedSimpArgs false
set_option maxRecDepth 100000 in
set_option maxHeartbeats 4000000 in
theorem digits_b (d : List UInt8) (hd : d.length = 32) (w : World) :
    Calls Tryd.prog 34 #[.agg (bv d)] w fun e w' => e = .returned (.agg (nv (dgts d 133))) ∧ Below w.heap.size w w' := by
  have HD := Lib.hid hd
  clear hd
  have hz := zero133
  generalize hzz : nv (List.replicate 133 0) = zz at hz
  have HZ := Lib.hid hzz
  clear hzz
  go_enter Tryd.func34, Tryd.ntmps34
  go_wp2
  first | refine Cop.wl_world fun w1 hw1 => ?_ | refine Cop.calls_world fun w1 hw1 => ?_ | refine Cop.exit_world fun w1 hw1 => ?_ | refine Cop.code_world fun w1 hw1 => ?_
  have R : DRow w1 w.heap.size d (List.replicate 133 0) := by
    rw [← hw1]
    refine ⟨at_old _ _ _ (by simp <;> omega) (at_old _ _ _ (by simp) (at_new _ _ _ rfl)), ?_, ?_⟩
    · rw [HZ.out]; exact at_old _ _ _ (by simp) (at_new _ _ _ (by simp))
    · rw [HZ.out]; exact at_new _ _ _ (by simp)
  have bb : Below w.heap.size w w1 := by rw [← hw1]; exact bal (bal (bal (Below.refl _ _) _) _) _
  clear hw1
  go_loopw [4, 5] (fun s4 s7 wr => ∃ i : Nat, i ≤ 128 ∧ s7 = .int .i64 i ∧ s4 = .int .i64 (lack d i : Nat) ∧ Below w.heap.size w wr ∧ DRow wr w.heap.size d (pre d i)) (fun _ s7 _ => 128 - (intOf s7).toNat)
  case atStart => exact ⟨0, by omega, rfl, rfl, bb, R⟩
  case round =>
    clear R bb
    obtain ⟨i, hi, rfl, rfl, bb, R⟩ := hrel
    have RR := Lib.hid R
    by_cases hlt : i < 128
    · have c0 := row_bv R.r0 (i / 4) (by rw [HD.out]; omega)
      obtain ⟨y, c5⟩ : ∃ y, wr.cell? ⟨w.heap.size + 2, i, none⟩ = some y := ⟨_, row_nv R.r2 i (by rw [pre_length _ _ (by omega)]; omega)⟩
      have f5 := row_thaw R.r2 i
      have HG := Lib.hid (show dig d i = (d.getD (i / 4) 0).toNat / 2 ^ (6 - 2 * (i % 4)) % 4 from rfl)
      have HL := Lib.hid (show lack d (i + 1) = lack d i + (3 - dig d i) from rfl)
      have HS := Lib.hid (pre_set d i (by omega))
      have hll := lack_le d i
      have hdl := dig_lt d i
      clear R
      generalize d.getD (i / 4) 0 = x at c0 HG
      generalize dig d i = g at HG HL HS hdl
      generalize lack d i = L at HL hll ⊢
      obtain ⟨k, hk⟩ : ∃ k, i / 4 = k := ⟨_, rfl⟩
      obtain ⟨r, hr⟩ : ∃ r, i % 4 = r := ⟨_, rfl⟩
      obtain ⟨s, hs⟩ : ∃ s, 6 - 2 * r = s := ⟨_, rfl⟩
      rw [hk] at c0
      rw [hr, hs] at HG
      have k1 : (i : Int) / 4 = (k : Int) := by omega
      have k2 : (i : Int) % 4 = (r : Int) := by omega
      have k3 : 6 - 2 * (r : Int) = (s : Int) := by omega
      have k4 : (k : Int) < 32 := by omega
      have k5 : (i : Int) < 128 := by omega
      have hx := u8_lt x
      obtain ⟨q, hq⟩ : ∃ q, x.toNat / 2 ^ s = q := ⟨_, rfl⟩
      have q1 : (x.toNat : Int) / 2 ^ s = (q : Int) := by rw [← hq]; simp
      have q2 : q < 256 := by rw [← hq]; exact Nat.lt_of_le_of_lt (Nat.div_le_self _ _) hx
      rw [hq] at HG
      have q3 : bits .and .i64 (q : Int) 3 = (g : Int) := by rw [and_three q (by omega), HG.out]
      have q4 : g ≤ 3 := by omega
      have q5 : L ≤ 384 := by omega
      clear hk hr hs hq
      go_wp2
      refine ⟨⟨i + 1, by omega, by go_num, ?_, bb.setCell (by show w.heap.size ≤ w.heap.size + 1 + 1; omega) _, RR.out.set i g _ HS.out⟩, by simp [intOf]; omega⟩
      rw [HL.out]
      congr 1
      omega
    · have hi128 : i = 128 := by omega
      subst hi128
      clear hlt hi
      rw [post_zero] at R
      have HPS := Lib.hid (post_set d)
      have HPA := Lib.hid (post_all d)
      have hS := lack_le d 128
      have hSS : lack d 128 ≤ 384 := by omega
      generalize lack d 128 = S at *
      have hl := post_length d
      generalize post d = po at *
      have HPL := Lib.hid hl
      clear RR hl hS
      rw [show ((128 : Nat) : Int) = 128 from rfl]
      go_wp2
      go_loopw [4, 6] (fun s4 s6 wr => ∃ k m : Nat, k ≤ 5 ∧ m + k = 132 ∧ s6 = .int .i64 m ∧ s4 = .int .i64 (S / 4 ^ k : Nat) ∧ Below w.heap.size w wr ∧ DRow wr w.heap.size d (po k)) (fun _ s6 _ => (intOf s6).toNat - 127)
      case atStart => exact ⟨0, 132, by omega, by omega, rfl, by simp, bb, R⟩
      case round =>
        clear R bb
        obtain ⟨k, m, hk, hmk, rfl, rfl, bb, R⟩ := hrel
        have RR := Lib.hid R
        by_cases hlt : k < 5
        · obtain ⟨y, c5⟩ : ∃ y, wr.cell? ⟨w.heap.size + 2, m, none⟩ = some y := ⟨_, row_nv R.r2 m (by rw [HPL.out]; omega)⟩
          have f5 := row_thaw R.r2 m
          have HS := Lib.hid (HPS.out k hlt)
          rw [show 132 - k = m from by omega] at HS
          have HQ := Lib.hid (show S / 4 ^ (k + 1) = S / 4 ^ k / 4 by rw [Nat.pow_succ, Nat.div_div_eq_div_mul])
          have q2 : S / 4 ^ k ≤ 384 := Nat.le_trans (Nat.div_le_self _ _) hSS
          generalize S / 4 ^ k = q at HS HQ q2 ⊢
          have k4 : (128 : Int) ≤ (m : Int) := by omega
          have k6 : (m : Int) < 133 := by omega
          obtain ⟨m', rfl⟩ : ∃ m', m = m' + 1 := ⟨m - 1, by omega⟩
          have HMK := Lib.hid hmk
          clear R hmk
          go_wp2
          go_roundw
          case rel =>
            refine ⟨k + 1, m', by omega, by have := HMK.out; omega, by go_num, by rw [HQ.out]; simp, bb.setCell (by show w.heap.size ≤ w.heap.size + 1 + 1; omega) _, ?_⟩
            have := RR.out.set (m' + 1) (q % 4) _ HS.out
            simpa using this
          case measure => simp [intOf]; omega
        · have hk5 : k = 5 := by omega
          subst hk5
          have hm7 : m = 127 := by omega
          subst hm7
          generalize S / 4 ^ 5 = q5
          clear hlt hk hmk
          rw [HPA.out] at R
          have R1 := Lib.hid R.r1
          have R2 := Lib.hid R.r2
          have hsz : (Tryd.prog.info? 56).map (·.size) = some (nv (dgts d 133)).size := by rw [nv_size, dgts_length]; exact info_n133
          have HSZ := Lib.hid hsz
          clear RR R hsz
          go_wp2_with (first | refine wl_load_row rfl 56 _ rfl (w.heap.size + 2) rfl 56 (nv (dgts d 133)) (0, 0) _ R2.out Tryd.underlying56 rfl HSZ.out ?_ | refine wl_store_row rfl 56 _ _ rfl (w.heap.size + 1) rfl 56 (nv (List.replicate 133 0)) (nv (dgts d 133)) rfl R1.out HSZ.out (by rw [nv_size, nv_size, dgts_length]; rfl) (nv_one _) ?_)
          exact ret_row rfl rfl (w.heap.size + 1) rfl 56 (nv (dgts d 133)) (0, 0) _ (setRow_heap _ _ _ _ _ _ R1.out) Tryd.underlying56 rfl HSZ.out ⟨rfl, below_setRow bb (by omega) _⟩
end Go.Proofs.YtkgdjddcnlkppaaDoor
