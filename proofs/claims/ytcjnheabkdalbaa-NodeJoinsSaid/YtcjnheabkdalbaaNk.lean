/- Proved here: the spans of a consistency proof, with the older leaves where they are a power of two, are all leaves, each once, and one ends at the older size (node.Steps); without condition. -/
import Derived.Test.YtcjnheabkdalbaaNi
import Derived.Test.YtcjnheabkdalbaaFNodeJoins
namespace Go.Proofs.Ytcjnheabkdalbaa
open Go.RowKit Cop
set_option linter.unusedVariables false
set_option linter.unusedSimpArgs false
set_option maxRecDepth 100000 in
set_option maxHeartbeats 4000000 in
theorem nodeJoins_ok (i n : Nat) (w : World) (h1 : 1 ≤ i) (h : i < n) (hn : n ≤ 281474976710656) : Gives 9 #[.int .i64 i, .int .i64 n] w (.bool true) := by
  have CS := Lib.hid (steps_ok i n w h1 (by omega) hn)
  have hcov := steps_whole n i h1 h
  have hlen := stepsP_len 48 n i 0 true (by omega)
  obtain ⟨L, hL⟩ : ∃ L, stepsP i 0 n true = L := ⟨_, rfl⟩
  rw [hL] at CS hcov hlen
  have HC := Lib.hid hcov
  clear hL hcov
  have hib : (i : Int) ≤ 281474976710656 := by omega
  have hne : ¬ (i : Int) = (n : Int) := by omega
  have HA : Hid (bits .and .i64 (i : Int) ((i : Int) - 1) = ((i &&& (i - 1) : Nat) : Int)) := Lib.hid (by have := and_nat i (i - 1) (by omega) (by omega); rwa [show ((i - 1 : Nat) : Int) = (i : Int) - 1 from by omega] at this)
  obtain ⟨q, hq⟩ : ∃ q, i &&& (i - 1) = q := ⟨_, rfl⟩
  rw [hq] at HA
  have HQ := Lib.hid hq
  clear hq
  go_enter Try.func9, Try.ntmps9
  go_wp2_with fail
  (with_reducible refine Calls.mono CS.out ?_)
  rintro e w1 ⟨v, rfl, b1, o1⟩
  have HS1 := (Sep.start w).made b1 o1
  obtain ⟨A, c, rfl, _⟩ := (HS1.own 0 rfl).sl
  clear o1 b1
  go_wp2_with (first | refine wl_al HS1 rfl 46 rfl #[.int .i64 0, .int .i64 0] (by kernel_rfl) ?_)
  intro g2 w2 HS2
  go_wp2_with (first | refine wl_st HS2 0 rfl rfl 46 _ _ rfl rfl (cs := #[.int .i64 0, .int .i64 (i : Int)]) rfl (by kernel_rfl) rfl (spv_one (0, i)) ?_)
  intro w3 HS3
  replace HS3 : Sep w.heap.size w w3 [.row g2 (spv (0, i)) 46, .own (.slice A L.length c) 46 2 L.length (scs L)] := HS3
  clear HS1 HS2
  have ha := HA.out
  rcases HC.out with ⟨j, hj, hcv⟩ | ⟨j, x0, r, hj1, hj2, hL, hx0, hcv⟩
  · have hq0 : q = 0 := by rw [← HQ.out, hj]; exact and_pow j
    subst hq0
    have HCV := Lib.hid hcv
    clear hcv hj HC
    go_wp2
    go_loopw [7] (fun s8 wr => ∃ (k lo hi : Nat), k ≤ L.length ∧ s8 = .int .i64 k ∧ Hid (Cov 0 n lo hi (L.drop k)) ∧ Sep w.heap.size w wr [.row g2 (spv (lo, hi)) 46, .own (.slice A L.length c) 46 2 L.length (scs L)]) (fun s8 _ => L.length - (intOf s8).toNat)
    case atStart => exact ⟨0, 0, i, Nat.zero_le _, rfl, Lib.hid (by rw [List.drop_zero]; exact HCV.out), HS3⟩
    case round =>
      clear HS3
      obtain ⟨k, lo, hi, hk, rfl, HV, HSi⟩ := hrel
      by_cases hlt : k < L.length
      · obtain ⟨x, y, hxy⟩ : ∃ x y, L.getD k (0, 0) = (x, y) := ⟨_, _, rfl⟩
        have hv := HV.out
        rw [drop_at hlt hxy] at hv
        obtain ⟨v1, v2, v3⟩ := cov_cons hv
        clear hv HV
        have HV3 := Lib.hid v3
        obtain ⟨g, rfl⟩ := Ow.addr (HSi.own 1 rfl) (by omega)
        have HXY := Lib.hid (fun W (h : Sep w.heap.size w W [.row g2 (spv (lo, hi)) 46, .own (.slice (some ⟨g, 0, none⟩) L.length c) 46 2 L.length (scs L)]) => cells_sp h 1 rfl k hlt x y hxy)
        have hlt' : (k : Int) < (L.length : Int) := by omega
        have hd1 : decide (y ≤ x) = false := decide_eq_false (by omega)
        have hkb : (k : Int) ≤ 48 := by omega
        clear v3 hxy
        by_cases hyl : y = lo
        · subst hyl
          clear v2
          go_wp2
          refine Cop.region_ord (fun w' => Sep w.heap.size w w' [.row g2 (spv (y, hi)) 46, .own (.slice (some ⟨g, 0, none⟩) L.length c) 46 2 L.length (scs L)]) 30 (.take 0 (.take 1 (.take 2 (.take 3 (.take 4 (.take 5 (.take 6 (.take 7 (.take 8 (.take 9 (.take 10 (.take 11 (.take 12 (.take 13 (.take 14 (.take 15 (.take 16 (.take 17 (.take 18 (.take 19 (.take 20 (.take 21 (.take 22 (.take 23 (.take 24 (.take 25 (.take 26 (.take 27 (.take 28 (.take 29 (.take 30 Cop.Ord.fin))))))))))))))))))))))))))))))) (by kernel_rfl) (by kernel_rfl) (fun _ _ d _ _ h => by cases d <;> exact h) ?_
          intro w5 hd5
          replace HSi := HSi.keep hd5
          (repeat (first | (refine Cop.og_skip rfl rfl HSi _ (by (simp only [Act.put, List.setIfInBounds_toArray, List.set_cons_succ, List.set_cons_zero]; rfl)) ?_) | (refine Cop.og_take rfl rfl HSi ?_; apply Exists.intro; refine ⟨fun w9 h9 => ?_, _, by (simp only [Act.put, List.setIfInBounds_toArray, List.set_cons_succ, List.set_cons_zero]; rfl), ?_⟩; (have q1 := (HXY.out w9 h9).1; have q2 := (HXY.out w9 h9).2; have q3 := (row_cell (h9.row 0 rfl) 0).trans (show (spv (y, hi))[0]? = some (.int .i64 (y : Int)) from rfl); have q4 := (row_cell (h9.row 0 rfl) 1).trans (show (spv (y, hi))[1]? = some (.int .i64 (hi : Int)) from rfl); skip; go_simp; with_reducible rfl))))
          refine og_fin ?_
          go_wp2
          refine Cop.region_ord (fun w' => Sep w.heap.size w w' [.row g2 (spv (y, hi)) 46, .own (.slice (some ⟨g, 0, none⟩) L.length c) 46 2 L.length (scs L)]) 17 (.take 0 (.take 1 (.take 2 (.take 3 (.take 4 (.take 5 (.take 6 (.take 7 (.take 8 (.take 9 (.take 10 (.take 11 (.take 12 (.take 13 (.take 14 (.take 15 (.take 16 (.run 17 Cop.Ord.fin)))))))))))))))))) (by kernel_rfl) (by kernel_rfl) (fun _ _ d _ _ h => by cases d <;> exact h) ?_
          intro w6 hd6
          replace HSi := HSi.keep hd6
          (repeat (first | (refine Cop.og_skip rfl rfl HSi _ (by (simp only [Act.put, List.setIfInBounds_toArray, List.set_cons_succ, List.set_cons_zero]; rfl)) ?_) | (refine Cop.og_take rfl rfl HSi ?_; apply Exists.intro; refine ⟨fun w9 h9 => ?_, _, by (simp only [Act.put, List.setIfInBounds_toArray, List.set_cons_succ, List.set_cons_zero]; rfl), ?_⟩; (have q1 := (HXY.out w9 h9).1; have q2 := (HXY.out w9 h9).2; have q3 := (row_cell (h9.row 0 rfl) 0).trans (show (spv (y, hi))[0]? = some (.int .i64 (y : Int)) from rfl); have q4 := (row_cell (h9.row 0 rfl) 1).trans (show (spv (y, hi))[1]? = some (.int .i64 (hi : Int)) from rfl); go_simp; with_reducible rfl))))
          refine Cop.og_run rfl rfl ?_
          refine ow_st HSi 0 rfl 46 _ _ rfl rfl (cs := spv (min y x, max hi y)) (Eq.trans (b := Value.agg #[_, _]) rfl (by simp [spv]; omega)) (spS (0, 0)) rfl (spv_one _) ?_
          intro w7 HSn
          refine ⟨fun h => absurd rfl h, ?_⟩
          refine og_fin ?_
          clear HSi
          go_wp2
          go_roundw
          case rel => exact ⟨k + 1, _, _, by omega, by go_num, HV3, HSn⟩
          case measure => simp [intOf]; omega
        · have hxh : x = hi := by omega
          subst hxh
          have HD2 := Lib.hid (show ((y : Int) != (lo : Int)) = true by simp; omega)
          clear v2
          go_wp2
          refine Cop.region_ord (fun w' => Sep w.heap.size w w' [.row g2 (spv (lo, x)) 46, .own (.slice (some ⟨g, 0, none⟩) L.length c) 46 2 L.length (scs L)]) 30 (.take 0 (.take 1 (.take 2 (.take 3 (.take 4 (.take 5 (.take 6 (.take 7 (.take 8 (.take 9 (.take 10 (.take 11 (.take 12 (.take 13 (.take 14 (.take 15 (.take 16 (.take 17 (.take 18 (.take 19 (.take 20 (.take 21 (.take 22 (.take 23 (.take 24 (.take 25 (.take 26 (.take 27 (.take 28 (.take 29 (.take 30 Cop.Ord.fin))))))))))))))))))))))))))))))) (by kernel_rfl) (by kernel_rfl) (fun _ _ d _ _ h => by cases d <;> exact h) ?_
          intro w5 hd5
          replace HSi := HSi.keep hd5
          (repeat (first | (refine Cop.og_skip rfl rfl HSi _ (by (simp only [Act.put, List.setIfInBounds_toArray, List.set_cons_succ, List.set_cons_zero]; rfl)) ?_) | (refine Cop.og_take rfl rfl HSi ?_; apply Exists.intro; refine ⟨fun w9 h9 => ?_, _, by (simp only [Act.put, List.setIfInBounds_toArray, List.set_cons_succ, List.set_cons_zero]; rfl), ?_⟩; (have q1 := (HXY.out w9 h9).1; have q2 := (HXY.out w9 h9).2; have q3 := (row_cell (h9.row 0 rfl) 0).trans (show (spv (lo, x))[0]? = some (.int .i64 (lo : Int)) from rfl); have q4 := (row_cell (h9.row 0 rfl) 1).trans (show (spv (lo, x))[1]? = some (.int .i64 (x : Int)) from rfl); have q5 := HD2.out; go_simp; with_reducible rfl))))
          refine og_fin ?_
          go_wp2
          refine Cop.region_ord (fun w' => Sep w.heap.size w w' [.row g2 (spv (lo, x)) 46, .own (.slice (some ⟨g, 0, none⟩) L.length c) 46 2 L.length (scs L)]) 17 (.take 0 (.take 1 (.take 2 (.take 3 (.take 4 (.take 5 (.take 6 (.take 7 (.take 8 (.take 9 (.take 10 (.take 11 (.take 12 (.take 13 (.take 14 (.take 15 (.take 16 (.run 17 Cop.Ord.fin)))))))))))))))))) (by kernel_rfl) (by kernel_rfl) (fun _ _ d _ _ h => by cases d <;> exact h) ?_
          intro w6 hd6
          replace HSi := HSi.keep hd6
          (repeat (first | (refine Cop.og_skip rfl rfl HSi _ (by (simp only [Act.put, List.setIfInBounds_toArray, List.set_cons_succ, List.set_cons_zero]; rfl)) ?_) | (refine Cop.og_take rfl rfl HSi ?_; apply Exists.intro; refine ⟨fun w9 h9 => ?_, _, by (simp only [Act.put, List.setIfInBounds_toArray, List.set_cons_succ, List.set_cons_zero]; rfl), ?_⟩; (have q1 := (HXY.out w9 h9).1; have q2 := (HXY.out w9 h9).2; have q3 := (row_cell (h9.row 0 rfl) 0).trans (show (spv (lo, x))[0]? = some (.int .i64 (lo : Int)) from rfl); have q4 := (row_cell (h9.row 0 rfl) 1).trans (show (spv (lo, x))[1]? = some (.int .i64 (x : Int)) from rfl); go_simp; with_reducible rfl))))
          refine Cop.og_run rfl rfl ?_
          refine ow_st HSi 0 rfl 46 _ _ rfl rfl (cs := spv (min lo x, max x y)) (Eq.trans (b := Value.agg #[_, _]) rfl (by simp [spv]; omega)) (spS (0, 0)) rfl (spv_one _) ?_
          intro w7 HSn
          refine ⟨fun h => absurd rfl h, ?_⟩
          refine og_fin ?_
          clear HSi
          go_wp2
          go_roundw
          case rel => exact ⟨k + 1, _, _, by omega, by go_num, HV3, HSn⟩
          case measure => simp [intOf]; omega
      · have hkl : k = L.length := by omega
        obtain ⟨rfl, rfl⟩ : lo = 0 ∧ hi = n := by have := HV.out; rw [hkl, List.drop_length] at this; exact this
        subst hkl
        replace HSi : Sep w.heap.size w wr [.row g2 #[.int .i64 0, .int .i64 (hi : Int)] 46, .own (.slice A L.length c) 46 2 L.length (scs L)] := HSi
        go_wp2_with (first | refine wl_ld HSi 0 rfl rfl 46 _ rfl rfl Try.underlying46 rfl (by kernel_rfl) ?_)
        go_ret
        exact ⟨rfl, HSi.hb⟩
  · have hq0 : ¬ q = 0 := by rw [← HQ.out]; exact and_not_pow hj1 hj2
    have hq1 : ¬ (q : Int) = 0 := by omega
    have HCV := Lib.hid hcv
    have hLl : L.length = r.length + 1 := by rw [hL]; rfl
    obtain ⟨g, rfl⟩ := Ow.addr (HS3.own 1 rfl) (by omega)
    have hg0 : L.getD 0 (0, 0) = (x0, i) := by rw [hL]; rfl
    obtain ⟨q1, q2⟩ := cells_sp HS3 1 rfl 0 (by omega) x0 i hg0
    rw [Nat.zero_mul] at q1 q2
    rw [Nat.zero_add] at q2
    have HLD := Lib.hid (fun W (h : Rd W (.slice (some ⟨g, 0, none⟩) L.length c) L.length 2 (scs L)) => load_sp h rfl 0 (by omega) (x0, i) hg0)
    have HL1 := Lib.hid hLl
    have hl0 : ((L.length : Int) == 0) = false := by simp; intro h; rw [h] at hLl; simp at hLl
    have hlp : 0 < L.length := by omega
    have HD := Lib.hid (show L.drop 1 = r by rw [hL]; rfl)
    clear hcv hj1 hj2 HC hL hg0 hLl
    go_wp2_with (first | refine wl_st HS3 0 rfl rfl 46 _ _ rfl rfl (cs := spv (x0, i)) rfl (by kernel_rfl) rfl (spv_one (x0, i)) ?_)
    intro w4 HS4
    clear HS3 q1 q2
    go_wp2
    go_loopw [7] (fun s8 wr => ∃ (k lo hi : Nat), k ≤ L.length ∧ s8 = .int .i64 k ∧ Hid (Cov 0 n lo hi (L.drop k)) ∧ Sep w.heap.size w wr [.row g2 (spv (lo, hi)) 46, .own (.slice (some ⟨g, 0, none⟩) L.length c) 46 2 L.length (scs L)]) (fun s8 _ => L.length - (intOf s8).toNat)
    case atStart => exact ⟨1, x0, i, hlp, rfl, Lib.hid (by rw [HD.out]; exact HCV.out), HS4⟩
    case round =>
      clear HS4
      obtain ⟨k, lo, hi, hk, rfl, HV, HSi⟩ := hrel
      by_cases hlt : k < L.length
      · obtain ⟨x, y, hxy⟩ : ∃ x y, L.getD k (0, 0) = (x, y) := ⟨_, _, rfl⟩
        have hv := HV.out
        rw [drop_at hlt hxy] at hv
        obtain ⟨v1, v2, v3⟩ := cov_cons hv
        clear hv HV
        have HV3 := Lib.hid v3
        have HXY := Lib.hid (fun W (h : Sep w.heap.size w W [.row g2 (spv (lo, hi)) 46, .own (.slice (some ⟨g, 0, none⟩) L.length c) 46 2 L.length (scs L)]) => cells_sp h 1 rfl k hlt x y hxy)
        have hlt' : (k : Int) < (L.length : Int) := by omega
        have hd1 : decide (y ≤ x) = false := decide_eq_false (by omega)
        have hkb : (k : Int) ≤ 48 := by omega
        clear v3 hxy
        by_cases hyl : y = lo
        · subst hyl
          clear v2
          go_wp2
          refine Cop.region_ord (fun w' => Sep w.heap.size w w' [.row g2 (spv (y, hi)) 46, .own (.slice (some ⟨g, 0, none⟩) L.length c) 46 2 L.length (scs L)]) 30 (.take 0 (.take 1 (.take 2 (.take 3 (.take 4 (.take 5 (.take 6 (.take 7 (.take 8 (.take 9 (.take 10 (.take 11 (.take 12 (.take 13 (.take 14 (.take 15 (.take 16 (.take 17 (.take 18 (.take 19 (.take 20 (.take 21 (.take 22 (.take 23 (.take 24 (.take 25 (.take 26 (.take 27 (.take 28 (.take 29 (.take 30 Cop.Ord.fin))))))))))))))))))))))))))))))) (by kernel_rfl) (by kernel_rfl) (fun _ _ d _ _ h => by cases d <;> exact h) ?_
          intro w5 hd5
          replace HSi := HSi.keep hd5
          (repeat (first | (refine Cop.og_skip rfl rfl HSi _ (by (simp only [Act.put, List.setIfInBounds_toArray, List.set_cons_succ, List.set_cons_zero]; rfl)) ?_) | (refine Cop.og_take rfl rfl HSi ?_; apply Exists.intro; refine ⟨fun w9 h9 => ?_, _, by (simp only [Act.put, List.setIfInBounds_toArray, List.set_cons_succ, List.set_cons_zero]; rfl), ?_⟩; (have q1 := (HXY.out w9 h9).1; have q2 := (HXY.out w9 h9).2; have q3 := (row_cell (h9.row 0 rfl) 0).trans (show (spv (y, hi))[0]? = some (.int .i64 (y : Int)) from rfl); have q4 := (row_cell (h9.row 0 rfl) 1).trans (show (spv (y, hi))[1]? = some (.int .i64 (hi : Int)) from rfl); skip; go_simp; with_reducible rfl))))
          refine og_fin ?_
          go_wp2
          refine Cop.region_ord (fun w' => Sep w.heap.size w w' [.row g2 (spv (y, hi)) 46, .own (.slice (some ⟨g, 0, none⟩) L.length c) 46 2 L.length (scs L)]) 17 (.take 0 (.take 1 (.take 2 (.take 3 (.take 4 (.take 5 (.take 6 (.take 7 (.take 8 (.take 9 (.take 10 (.take 11 (.take 12 (.take 13 (.take 14 (.take 15 (.take 16 (.run 17 Cop.Ord.fin)))))))))))))))))) (by kernel_rfl) (by kernel_rfl) (fun _ _ d _ _ h => by cases d <;> exact h) ?_
          intro w6 hd6
          replace HSi := HSi.keep hd6
          (repeat (first | (refine Cop.og_skip rfl rfl HSi _ (by (simp only [Act.put, List.setIfInBounds_toArray, List.set_cons_succ, List.set_cons_zero]; rfl)) ?_) | (refine Cop.og_take rfl rfl HSi ?_; apply Exists.intro; refine ⟨fun w9 h9 => ?_, _, by (simp only [Act.put, List.setIfInBounds_toArray, List.set_cons_succ, List.set_cons_zero]; rfl), ?_⟩; (have q1 := (HXY.out w9 h9).1; have q2 := (HXY.out w9 h9).2; have q3 := (row_cell (h9.row 0 rfl) 0).trans (show (spv (y, hi))[0]? = some (.int .i64 (y : Int)) from rfl); have q4 := (row_cell (h9.row 0 rfl) 1).trans (show (spv (y, hi))[1]? = some (.int .i64 (hi : Int)) from rfl); go_simp; with_reducible rfl))))
          refine Cop.og_run rfl rfl ?_
          refine ow_st HSi 0 rfl 46 _ _ rfl rfl (cs := spv (min y x, max hi y)) (Eq.trans (b := Value.agg #[_, _]) rfl (by simp [spv]; omega)) (spS (0, 0)) rfl (spv_one _) ?_
          intro w7 HSn
          refine ⟨fun h => absurd rfl h, ?_⟩
          refine og_fin ?_
          clear HSi
          go_wp2
          go_roundw
          case rel => exact ⟨k + 1, _, _, by omega, by go_num, HV3, HSn⟩
          case measure => simp [intOf]; omega
        · have hxh : x = hi := by omega
          subst hxh
          have HD2 := Lib.hid (show ((y : Int) != (lo : Int)) = true by simp; omega)
          clear v2
          go_wp2
          refine Cop.region_ord (fun w' => Sep w.heap.size w w' [.row g2 (spv (lo, x)) 46, .own (.slice (some ⟨g, 0, none⟩) L.length c) 46 2 L.length (scs L)]) 30 (.take 0 (.take 1 (.take 2 (.take 3 (.take 4 (.take 5 (.take 6 (.take 7 (.take 8 (.take 9 (.take 10 (.take 11 (.take 12 (.take 13 (.take 14 (.take 15 (.take 16 (.take 17 (.take 18 (.take 19 (.take 20 (.take 21 (.take 22 (.take 23 (.take 24 (.take 25 (.take 26 (.take 27 (.take 28 (.take 29 (.take 30 Cop.Ord.fin))))))))))))))))))))))))))))))) (by kernel_rfl) (by kernel_rfl) (fun _ _ d _ _ h => by cases d <;> exact h) ?_
          intro w5 hd5
          replace HSi := HSi.keep hd5
          (repeat (first | (refine Cop.og_skip rfl rfl HSi _ (by (simp only [Act.put, List.setIfInBounds_toArray, List.set_cons_succ, List.set_cons_zero]; rfl)) ?_) | (refine Cop.og_take rfl rfl HSi ?_; apply Exists.intro; refine ⟨fun w9 h9 => ?_, _, by (simp only [Act.put, List.setIfInBounds_toArray, List.set_cons_succ, List.set_cons_zero]; rfl), ?_⟩; (have q1 := (HXY.out w9 h9).1; have q2 := (HXY.out w9 h9).2; have q3 := (row_cell (h9.row 0 rfl) 0).trans (show (spv (lo, x))[0]? = some (.int .i64 (lo : Int)) from rfl); have q4 := (row_cell (h9.row 0 rfl) 1).trans (show (spv (lo, x))[1]? = some (.int .i64 (x : Int)) from rfl); have q5 := HD2.out; go_simp; with_reducible rfl))))
          refine og_fin ?_
          go_wp2
          refine Cop.region_ord (fun w' => Sep w.heap.size w w' [.row g2 (spv (lo, x)) 46, .own (.slice (some ⟨g, 0, none⟩) L.length c) 46 2 L.length (scs L)]) 17 (.take 0 (.take 1 (.take 2 (.take 3 (.take 4 (.take 5 (.take 6 (.take 7 (.take 8 (.take 9 (.take 10 (.take 11 (.take 12 (.take 13 (.take 14 (.take 15 (.take 16 (.run 17 Cop.Ord.fin)))))))))))))))))) (by kernel_rfl) (by kernel_rfl) (fun _ _ d _ _ h => by cases d <;> exact h) ?_
          intro w6 hd6
          replace HSi := HSi.keep hd6
          (repeat (first | (refine Cop.og_skip rfl rfl HSi _ (by (simp only [Act.put, List.setIfInBounds_toArray, List.set_cons_succ, List.set_cons_zero]; rfl)) ?_) | (refine Cop.og_take rfl rfl HSi ?_; apply Exists.intro; refine ⟨fun w9 h9 => ?_, _, by (simp only [Act.put, List.setIfInBounds_toArray, List.set_cons_succ, List.set_cons_zero]; rfl), ?_⟩; (have q1 := (HXY.out w9 h9).1; have q2 := (HXY.out w9 h9).2; have q3 := (row_cell (h9.row 0 rfl) 0).trans (show (spv (lo, x))[0]? = some (.int .i64 (lo : Int)) from rfl); have q4 := (row_cell (h9.row 0 rfl) 1).trans (show (spv (lo, x))[1]? = some (.int .i64 (x : Int)) from rfl); go_simp; with_reducible rfl))))
          refine Cop.og_run rfl rfl ?_
          refine ow_st HSi 0 rfl 46 _ _ rfl rfl (cs := spv (min lo x, max x y)) (Eq.trans (b := Value.agg #[_, _]) rfl (by simp [spv]; omega)) (spS (0, 0)) rfl (spv_one _) ?_
          intro w7 HSn
          refine ⟨fun h => absurd rfl h, ?_⟩
          refine og_fin ?_
          clear HSi
          go_wp2
          go_roundw
          case rel => exact ⟨k + 1, _, _, by omega, by go_num, HV3, HSn⟩
          case measure => simp [intOf]; omega
      · have hkl : k = L.length := by omega
        obtain ⟨rfl, rfl⟩ : lo = 0 ∧ hi = n := by have := HV.out; rw [hkl, List.drop_length] at this; exact this
        subst hkl
        replace HSi : Sep w.heap.size w wr [.row g2 #[.int .i64 0, .int .i64 (hi : Int)] 46, .own (.slice (some ⟨g, 0, none⟩) L.length c) 46 2 L.length (scs L)] := HSi
        go_wp2_with (first | refine wl_ld HSi 0 rfl rfl 46 _ rfl rfl Try.underlying46 rfl (by kernel_rfl) ?_)
        go_ret
        exact ⟨rfl, HSi.hb⟩
theorem nodeJoins_same (n : Nat) (w : World) (h1 : 1 ≤ n) (hn : n ≤ 281474976710656) : Gives 9 #[.int .i64 n, .int .i64 n] w (.bool true) := by
  have CS := Lib.hid (steps_ok n n w h1 (Nat.le_refl _) hn)
  rw [stepsP_end (.inr rfl)] at CS
  have HS0 := Sep.start w
  go_enter Try.func9, Try.ntmps9
  go_wp2_with fail
  (with_reducible refine Calls.mono CS.out ?_)
  rintro e w1 ⟨v, rfl, b1, o1⟩
  obtain ⟨A, c, rfl, _⟩ := o1.sl
  go_wp2
  go_ret
  exact ⟨rfl, b1⟩
theorem nodeJoins_bad (i n : Int) (w : World) (h : i < 1 ∨ n < i ∨ 281474976710656 < n) : Gives 9 #[.int .i64 i, .int .i64 n] w (.bool true) := by
  have CS := Lib.hid (steps_bad i n w h)
  have hb : ∀ (e : Ending) (w' : World), (e = .returned (.bool true) ∧ w' = w) → (e = .returned (.bool true) ∧ Below w.heap.size w w') := fun e w' h => ⟨h.1, by rw [h.2]; exact Below.refl _ _⟩
  refine Calls.mono ?_ hb
  clear hb
  by_cases h1 : i < 1
  · clear h
    go_enter Try.func9, Try.ntmps9
    go_wp2_with fail
    (with_reducible refine Calls.mono (CS.out) ?_)
    rintro e wx ⟨rfl, rfl⟩
    go_wp2
    go_ret
    exact ⟨rfl, rfl⟩
  · by_cases h2 : n < i
    · clear h
      go_enter Try.func9, Try.ntmps9
      go_wp2_with fail
      (with_reducible refine Calls.mono (CS.out) ?_)
      rintro e wx ⟨rfl, rfl⟩
      go_wp2
      go_ret
      exact ⟨rfl, rfl⟩
    · have h3 : 281474976710656 < n := by omega
      clear h
      go_enter Try.func9, Try.ntmps9
      go_wp2_with fail
      (with_reducible refine Calls.mono (CS.out) ?_)
      rintro e wx ⟨rfl, rfl⟩
      go_wp2
      go_ret
      exact ⟨rfl, rfl⟩
theorem nodeJoins_holds : Rows.NodeJoinsSaid := nodeJoins.row_of_walk fun H enc W base v0 v1 d0 d1 p0 p1 h0 k0 h1 k1 _ => by
  obtain ⟨i, rfl, _, _, _⟩ := Go.ChangeShapes.open_int Try.underlying3 k0 h0
  obtain ⟨n, rfl, _, _, _⟩ := Go.ChangeShapes.open_int Try.underlying3 k1 h1
  by_cases h : 1 ≤ i ∧ i ≤ n ∧ n ≤ 281474976710656
  · obtain ⟨i, rfl⟩ : ∃ k : Nat, i = k := ⟨i.toNat, by omega⟩
    obtain ⟨n, rfl⟩ : ∃ k : Nat, n = k := ⟨n.toNat, by omega⟩
    by_cases he : i = n
    · subst he
      exact nodeJoins_same i W (by omega) (by omega)
    · exact nodeJoins_ok i n W (by omega) (by omega) (by omega)
  · exact nodeJoins_bad i n W (by omega)
#print axioms nodeJoins_holds
end Go.Proofs.Ytcjnheabkdalbaa
