/- Proved here: the spans of an inclusion proof and the leaf itself are all leaves, each once (node.Spans); without condition. -/
import Derived.Test.YtcjnheabkdalbaaNi
import Derived.Test.YtcjnheabkdalbaaFNodeCovers
namespace Go.Proofs.Ytcjnheabkdalbaa
open Go.RowKit Cop
set_option linter.unusedVariables false
set_option linter.unusedSimpArgs false
set_option maxRecDepth 100000 in
set_option maxHeartbeats 4000000 in
theorem nodeCovers_ok (i n : Nat) (w : World) (h : i < n) (hn : n ≤ 281474976710656) : Gives 10 #[.int .i64 i, .int .i64 n] w (.bool true) := by
  have CS := Lib.hid (spans_ok i n w h hn)
  have hcov := cov_spans n 0 i (by omega) (by omega)
  have hlen := spansP_len 48 n i 0 (by omega)
  rw [Nat.zero_add] at hcov
  obtain ⟨L, hL⟩ : ∃ L, spansP i 0 n = L := ⟨_, rfl⟩
  rw [hL] at CS hcov hlen
  have HC := Lib.hid hcov
  clear hL hcov
  have hib : (i : Int) ≤ 281474976710656 := by omega
  go_enter Try.func10, Try.ntmps10
  go_wp2_with fail
  (with_reducible refine Calls.mono CS.out ?_)
  rintro e w1 ⟨v, rfl, b1, o1⟩
  have HS1 := (Sep.start w).made b1 o1
  obtain ⟨A, c, rfl, _⟩ := (HS1.own 0 rfl).sl
  clear o1 b1
  go_wp2_with (first | refine wl_al HS1 rfl 46 rfl #[.int .i64 0, .int .i64 0] (by kernel_rfl) ?_)
  intro g2 w2 HS2
  go_wp2_with (first | refine wl_st HS2 0 rfl rfl 46 _ _ rfl rfl (cs := #[.int .i64 (i : Int), .int .i64 ((i : Int) + 1)]) rfl (by kernel_rfl) rfl (spv_one (i, i + 1)) ?_)
  intro w3 HS3
  replace HS3 : Sep w.heap.size w w3 [.row g2 (spv (i, i + 1)) 46, .own (.slice A L.length c) 46 2 L.length (scs L)] := HS3
  clear HS1 HS2
  go_wp2
  go_loopw [8] (fun s8 wr => ∃ (k lo hi : Nat), k ≤ L.length ∧ s8 = .int .i64 k ∧ Hid (Cov 0 n lo hi (L.drop k)) ∧ Sep w.heap.size w wr [.row g2 (spv (lo, hi)) 46, .own (.slice A L.length c) 46 2 L.length (scs L)]) (fun s8 _ => L.length - (intOf s8).toNat)
  case atStart => exact ⟨0, i, i + 1, Nat.zero_le _, rfl, Lib.hid (by rw [List.drop_zero]; exact HC.out), HS3⟩
  case round =>
    clear HS3
    obtain ⟨k, lo, hi, hk, rfl, HV, HSi⟩ := hrel
    by_cases hlt : k < L.length
    · obtain ⟨x, y, hxy⟩ : ∃ x y, L.getD k (0, 0) = (x, y) := ⟨_, _, rfl⟩
      have hv := HV.out
      rw [drop_at hlt hxy] at hv
      obtain ⟨v1, v2, v3⟩ := cov_cons hv
      clear hv HV
      have HV3 := Lib.hid v3
      obtain ⟨g, rfl⟩ := Ow.addr (HSi.own 1 rfl) (by omega)
      have HXY := Lib.hid (fun W (h : Sep w.heap.size w W [.row g2 (spv (lo, hi)) 46, .own (.slice (some ⟨g, 0, none⟩) L.length c) 46 2 L.length (scs L)]) => cells_sp h 1 rfl k hlt x y hxy)
      have hlt' : (k : Int) < (L.length : Int) := by omega
      have hd1 : decide (y ≤ x) = false := decide_eq_false (by omega)
      have hkb : (k : Int) ≤ 48 := by omega
      clear v3 hxy
      by_cases hyl : y = lo
      · subst hyl
        clear v2
        go_wp2
        refine Cop.region_ord (fun w' => Sep w.heap.size w w' [.row g2 (spv (y, hi)) 46, .own (.slice (some ⟨g, 0, none⟩) L.length c) 46 2 L.length (scs L)]) 30 (.take 0 (.take 1 (.take 2 (.take 3 (.take 4 (.take 5 (.take 6 (.take 7 (.take 8 (.take 9 (.take 10 (.take 11 (.take 12 (.take 13 (.take 14 (.take 15 (.take 16 (.take 17 (.take 18 (.take 19 (.take 20 (.take 21 (.take 22 (.take 23 (.take 24 (.take 25 (.take 26 (.take 27 (.take 28 (.take 29 (.take 30 Cop.Ord.fin))))))))))))))))))))))))))))))) (by kernel_rfl) (by kernel_rfl) (fun _ _ d _ _ h => by cases d <;> exact h) ?_
        intro w5 hd5
        replace HSi := HSi.keep hd5
        (repeat (first | (refine Cop.og_skip rfl rfl HSi _ (by (simp only [Act.put, List.setIfInBounds_toArray, List.set_cons_succ, List.set_cons_zero]; rfl)) ?_) | (refine Cop.og_take rfl rfl HSi ?_; apply Exists.intro; refine ⟨fun w9 h9 => ?_, _, by (simp only [Act.put, List.setIfInBounds_toArray, List.set_cons_succ, List.set_cons_zero]; rfl), ?_⟩; (have q1 := (HXY.out w9 h9).1; have q2 := (HXY.out w9 h9).2; have q3 := (row_cell (h9.row 0 rfl) 0).trans (show (spv (y, hi))[0]? = some (.int .i64 (y : Int)) from rfl); have q4 := (row_cell (h9.row 0 rfl) 1).trans (show (spv (y, hi))[1]? = some (.int .i64 (hi : Int)) from rfl); skip; go_simp; with_reducible rfl))))
        refine og_fin ?_
        go_wp2
        refine Cop.region_ord (fun w' => Sep w.heap.size w w' [.row g2 (spv (y, hi)) 46, .own (.slice (some ⟨g, 0, none⟩) L.length c) 46 2 L.length (scs L)]) 17 (.take 0 (.take 1 (.take 2 (.take 3 (.take 4 (.take 5 (.take 6 (.take 7 (.take 8 (.take 9 (.take 10 (.take 11 (.take 12 (.take 13 (.take 14 (.take 15 (.take 16 (.run 17 Cop.Ord.fin)))))))))))))))))) (by kernel_rfl) (by kernel_rfl) (fun _ _ d _ _ h => by cases d <;> exact h) ?_
        intro w6 hd6
        replace HSi := HSi.keep hd6
        (repeat (first | (refine Cop.og_skip rfl rfl HSi _ (by (simp only [Act.put, List.setIfInBounds_toArray, List.set_cons_succ, List.set_cons_zero]; rfl)) ?_) | (refine Cop.og_take rfl rfl HSi ?_; apply Exists.intro; refine ⟨fun w9 h9 => ?_, _, by (simp only [Act.put, List.setIfInBounds_toArray, List.set_cons_succ, List.set_cons_zero]; rfl), ?_⟩; (have q1 := (HXY.out w9 h9).1; have q2 := (HXY.out w9 h9).2; have q3 := (row_cell (h9.row 0 rfl) 0).trans (show (spv (y, hi))[0]? = some (.int .i64 (y : Int)) from rfl); have q4 := (row_cell (h9.row 0 rfl) 1).trans (show (spv (y, hi))[1]? = some (.int .i64 (hi : Int)) from rfl); go_simp; with_reducible rfl))))
        refine Cop.og_run rfl rfl ?_
        refine ow_st HSi 0 rfl 46 _ _ rfl rfl (cs := spv (min y x, max hi y)) (Eq.trans (b := Value.agg #[_, _]) rfl (by simp [spv]; omega)) (spS (0, 0)) rfl (spv_one _) ?_
        intro w7 HSn
        refine ⟨fun h => absurd rfl h, ?_⟩
        refine og_fin ?_
        clear HSi
        go_wp2
        go_roundw
        case rel => exact ⟨k + 1, _, _, by omega, by go_num, HV3, HSn⟩
        case measure => simp [intOf]; omega
      · have hxh : x = hi := by omega
        subst hxh
        have HD2 := Lib.hid (show ((y : Int) != (lo : Int)) = true by simp; omega)
        clear v2
        go_wp2
        refine Cop.region_ord (fun w' => Sep w.heap.size w w' [.row g2 (spv (lo, x)) 46, .own (.slice (some ⟨g, 0, none⟩) L.length c) 46 2 L.length (scs L)]) 30 (.take 0 (.take 1 (.take 2 (.take 3 (.take 4 (.take 5 (.take 6 (.take 7 (.take 8 (.take 9 (.take 10 (.take 11 (.take 12 (.take 13 (.take 14 (.take 15 (.take 16 (.take 17 (.take 18 (.take 19 (.take 20 (.take 21 (.take 22 (.take 23 (.take 24 (.take 25 (.take 26 (.take 27 (.take 28 (.take 29 (.take 30 Cop.Ord.fin))))))))))))))))))))))))))))))) (by kernel_rfl) (by kernel_rfl) (fun _ _ d _ _ h => by cases d <;> exact h) ?_
        intro w5 hd5
        replace HSi := HSi.keep hd5
        (repeat (first | (refine Cop.og_skip rfl rfl HSi _ (by (simp only [Act.put, List.setIfInBounds_toArray, List.set_cons_succ, List.set_cons_zero]; rfl)) ?_) | (refine Cop.og_take rfl rfl HSi ?_; apply Exists.intro; refine ⟨fun w9 h9 => ?_, _, by (simp only [Act.put, List.setIfInBounds_toArray, List.set_cons_succ, List.set_cons_zero]; rfl), ?_⟩; (have q1 := (HXY.out w9 h9).1; have q2 := (HXY.out w9 h9).2; have q3 := (row_cell (h9.row 0 rfl) 0).trans (show (spv (lo, x))[0]? = some (.int .i64 (lo : Int)) from rfl); have q4 := (row_cell (h9.row 0 rfl) 1).trans (show (spv (lo, x))[1]? = some (.int .i64 (x : Int)) from rfl); have q5 := HD2.out; go_simp; with_reducible rfl))))
        refine og_fin ?_
        go_wp2
        refine Cop.region_ord (fun w' => Sep w.heap.size w w' [.row g2 (spv (lo, x)) 46, .own (.slice (some ⟨g, 0, none⟩) L.length c) 46 2 L.length (scs L)]) 17 (.take 0 (.take 1 (.take 2 (.take 3 (.take 4 (.take 5 (.take 6 (.take 7 (.take 8 (.take 9 (.take 10 (.take 11 (.take 12 (.take 13 (.take 14 (.take 15 (.take 16 (.run 17 Cop.Ord.fin)))))))))))))))))) (by kernel_rfl) (by kernel_rfl) (fun _ _ d _ _ h => by cases d <;> exact h) ?_
        intro w6 hd6
        replace HSi := HSi.keep hd6
        (repeat (first | (refine Cop.og_skip rfl rfl HSi _ (by (simp only [Act.put, List.setIfInBounds_toArray, List.set_cons_succ, List.set_cons_zero]; rfl)) ?_) | (refine Cop.og_take rfl rfl HSi ?_; apply Exists.intro; refine ⟨fun w9 h9 => ?_, _, by (simp only [Act.put, List.setIfInBounds_toArray, List.set_cons_succ, List.set_cons_zero]; rfl), ?_⟩; (have q1 := (HXY.out w9 h9).1; have q2 := (HXY.out w9 h9).2; have q3 := (row_cell (h9.row 0 rfl) 0).trans (show (spv (lo, x))[0]? = some (.int .i64 (lo : Int)) from rfl); have q4 := (row_cell (h9.row 0 rfl) 1).trans (show (spv (lo, x))[1]? = some (.int .i64 (x : Int)) from rfl); go_simp; with_reducible rfl))))
        refine Cop.og_run rfl rfl ?_
        refine ow_st HSi 0 rfl 46 _ _ rfl rfl (cs := spv (min lo x, max x y)) (Eq.trans (b := Value.agg #[_, _]) rfl (by simp [spv]; omega)) (spS (0, 0)) rfl (spv_one _) ?_
        intro w7 HSn
        refine ⟨fun h => absurd rfl h, ?_⟩
        refine og_fin ?_
        clear HSi
        go_wp2
        go_roundw
        case rel => exact ⟨k + 1, _, _, by omega, by go_num, HV3, HSn⟩
        case measure => simp [intOf]; omega
    · have hkl : k = L.length := by omega
      obtain ⟨rfl, rfl⟩ : lo = 0 ∧ hi = n := by have := HV.out; rw [hkl, List.drop_length] at this; exact this
      subst hkl
      replace HSi : Sep w.heap.size w wr [.row g2 #[.int .i64 0, .int .i64 (hi : Int)] 46, .own (.slice A L.length c) 46 2 L.length (scs L)] := HSi
      go_wp2_with (first | refine wl_ld HSi 0 rfl rfl 46 _ rfl rfl Try.underlying46 rfl (by kernel_rfl) ?_)
      go_ret
      exact ⟨rfl, HSi.hb⟩
theorem nodeCovers_bad (i n : Int) (w : World) (h : i < 0 ∨ n ≤ i ∨ 281474976710656 < n) : Gives 10 #[.int .i64 i, .int .i64 n] w (.bool true) := by
  have CS := Lib.hid (spans_bad i n w h)
  have hb : ∀ (e : Ending) (w' : World), (e = .returned (.bool true) ∧ w' = w) → (e = .returned (.bool true) ∧ Below w.heap.size w w') := fun e w' h => ⟨h.1, by rw [h.2]; exact Below.refl _ _⟩
  refine Calls.mono ?_ hb
  clear hb
  by_cases h1 : i < 0
  · clear h
    go_enter Try.func10, Try.ntmps10
    go_wp2_with fail
    (with_reducible refine Calls.mono (CS.out) ?_)
    rintro e wx ⟨rfl, rfl⟩
    go_wp2
    go_ret
    exact ⟨rfl, rfl⟩
  · by_cases h2 : n ≤ i
    · clear h
      go_enter Try.func10, Try.ntmps10
      go_wp2_with fail
      (with_reducible refine Calls.mono (CS.out) ?_)
      rintro e wx ⟨rfl, rfl⟩
      go_wp2
      go_ret
      exact ⟨rfl, rfl⟩
    · have h3 : 281474976710656 < n := by omega
      clear h
      go_enter Try.func10, Try.ntmps10
      go_wp2_with fail
      (with_reducible refine Calls.mono (CS.out) ?_)
      rintro e wx ⟨rfl, rfl⟩
      go_wp2
      go_ret
      exact ⟨rfl, rfl⟩
theorem nodeCovers_holds : Rows.NodeCoversSaid := nodeCovers.row_of_walk fun H enc W base v0 v1 d0 d1 p0 p1 h0 k0 h1 k1 _ => by
  obtain ⟨i, rfl, _, _, _⟩ := Go.ChangeShapes.open_int Try.underlying3 k0 h0
  obtain ⟨n, rfl, _, _, _⟩ := Go.ChangeShapes.open_int Try.underlying3 k1 h1
  by_cases h : 0 ≤ i ∧ i < n ∧ n ≤ 281474976710656
  · obtain ⟨i, rfl⟩ : ∃ k : Nat, i = k := ⟨i.toNat, by omega⟩
    obtain ⟨n, rfl⟩ : ∃ k : Nat, n = k := ⟨n.toNat, by omega⟩
    exact nodeCovers_ok i n W (by omega) (by omega)
  · exact nodeCovers_bad i n W (by omega)
#print axioms nodeCovers_holds
end Go.Proofs.Ytcjnheabkdalbaa
