/- Proved here: a chain that goes on in two steps comes to where it comes in one. The table of constants is tied to the program's text. No condition. -/
import Derived.Test.YtkgdjddcnlkppaaDoorPi
import Derived.Test.YtkgdjddcnlkppaaDoorOt
import Derived.Test.YtkgdjddcnlkppaaDoorFOnetimeSteps
namespace Go.Proofs.YtkgdjddcnlkppaaDoor
open Go.RowKit Cop
set_option linter.unusedVariables false
set_option linter.unusedSimpArgs false
set_option maxRecDepth 100000 in
set_option maxHeartbeats 4000000 in
theorem onetimeSteps_no (s x : List UInt8) (i j m : Int) (w : World) (hno : ¬ (0 ≤ i ∧ i < 133 ∧ 0 ≤ j ∧ j ≤ m ∧ m ≤ 3)) :
    Calls Tryd.prog 4 #[.agg (bv s), .agg #[.int .i64 i, .int .i64 j, .int .i64 m], .agg (bv x)] w fun e w' => e = .returned (.bool true) ∧ Below w.heap.size w w' := by
  have HS0 := Sep.start w
  have HNO := Lib.hid hno
  clear hno
  go_enter Tryd.func4, Tryd.ntmps4
  go_wp2_with (first | refine wl_bx HS0 rfl 23 _ rfl (bv s) rfl ?_)
  intro g1 w1 HS1
  go_wp2_with (first | refine wl_bx HS1 rfl 25 _ rfl #[.int .i64 i, .int .i64 j, .int .i64 m] rfl ?_)
  intro g2 w2 HS2
  go_wp2_with (first | refine wl_bx HS2 rfl 23 _ rfl (bv x) rfl ?_)
  intro g3 w3 HS3
  clear HS0 HS1 HS2
  have c0 : w3.cell? ⟨g2, 0, none⟩ = some (.int .i64 i) := by rw [row_cell (HS3.row 1 rfl)]; rfl
  have c1 : w3.cell? ⟨g2, 1, none⟩ = some (.int .i64 j) := by rw [row_cell (HS3.row 1 rfl)]; rfl
  have c2 : w3.cell? ⟨g2, 2, none⟩ = some (.int .i64 m) := by rw [row_cell (HS3.row 1 rfl)]; rfl
  rcases (show i < 0 ∨ (¬ i < 0 ∧ 133 ≤ i) ∨ (¬ i < 0 ∧ ¬ 133 ≤ i ∧ j < 0) ∨ (¬ i < 0 ∧ ¬ 133 ≤ i ∧ ¬ j < 0 ∧ m < j) ∨ (¬ i < 0 ∧ ¬ 133 ≤ i ∧ ¬ j < 0 ∧ ¬ m < j ∧ 3 < m) from by have := HNO.out; omega) with h1 | ⟨h1, h2⟩ | ⟨h1, h2, h3⟩ | ⟨h1, h2, h3, h4⟩ | ⟨h1, h2, h3, h4, h5⟩
  all_goals
    go_wp2
    go_ret
    exact ⟨rfl, HS3.hb⟩
set_option maxRecDepth 100000 in
set_option maxHeartbeats 4000000 in
theorem onetimeSteps_yes (s x : List UInt8) (i j k l : Nat) (w : World) (hT : Tab w) (hs : s.length = 32) (hx : x.length = 32) (hi : i < 133) (hk : j + k ≤ 3) (hl : j + k + l = 3) :
    Calls Tryd.prog 4 #[.agg (bv s), .agg #[.int .i64 i, .int .i64 j, .int .i64 ((j + k : Nat) : Int)], .agg (bv x)] w fun e w' => e = .returned (.bool true) ∧ Below w.heap.size w w' := by
  obtain ⟨m, hm⟩ : ∃ y, j + k = y := ⟨_, rfl⟩
  obtain ⟨D, hD⟩ : ∃ y, chainD s i j k x = y := ⟨_, rfl⟩
  obtain ⟨E, hE⟩ : ∃ y, chainD s i j (k + l) x = y := ⟨_, rfl⟩
  have hDl : D.length = 32 := by rw [← hD]; exact chainD_length s i k j x hx
  have hEl : E.length = 32 := by rw [← hE]; exact chainD_length s i (k + l) j x hx
  have hE2 : chainD s i m l D = E := by rw [← hE, chainD_add, hm, hD]
  have hDx : k = 0 → D = x := by intro h; rw [← hD, h]; rfl
  have C1 := Lib.hid (fun w hT => chainOk_a s x i j k w hT hs hx hi (by omega))
  have C2 := Lib.hid (fun w hT => chainOk_a s D i m l w hT hs hDl hi (by omega))
  have C3 := Lib.hid (fun w hT => chainOk_a s x i j (k + l) w hT hs hx hi (by omega))
  rw [hD, hm] at C1
  rw [hE2, show m + l = 3 from by omega] at C2
  rw [hE, show j + (k + l) = 3 from by omega] at C3
  have h1 : ¬ (i : Int) < 0 := by omega
  have h2 : ¬ (133 : Int) ≤ (i : Int) := by omega
  have h3 : ¬ (j : Int) < 0 := by omega
  have h4 : ¬ (m : Int) < (j : Int) := by omega
  have h5 : ¬ 3 < (m : Int) := by omega
  have HDX := Lib.hid (show ¬ (j : Int) < (m : Int) → D = x from fun h => hDx (by omega))
  rw [hm]
  have HDL := Lib.hid hDl
  have HEL := Lib.hid hEl
  have HXL := Lib.hid hx
  have HS0 := Sep.start w
  have HTB := hT.base
  have HEQ := Lib.hid (fun w' : World => run_equal_bv (P := Tryd.prog) w' (d := 9998) Tryd.underlying23 Tryd.underlying5 (by kernel_rfl) E E hEl hEl)
  clear hD hE hE2 hDx hDl hEl hm hk hl
  go_enter Tryd.func4, Tryd.ntmps4
  go_wp2_with (first | refine wl_bx HS0 rfl 23 _ rfl (bv s) rfl ?_)
  intro g1 w1 HS1
  go_wp2_with (first | refine wl_bx HS1 rfl 25 _ rfl #[.int .i64 i, .int .i64 j, .int .i64 m] rfl ?_)
  intro g2 w2 HS2
  go_wp2_with (first | refine wl_bx HS2 rfl 23 _ rfl (bv x) rfl ?_)
  intro g3 w3 HS3
  clear HS0 HS1 HS2
  have c0 : w3.cell? ⟨g2, 0, none⟩ = some (.int .i64 i) := by rw [row_cell (HS3.row 1 rfl)]; rfl
  have c1 : w3.cell? ⟨g2, 1, none⟩ = some (.int .i64 j) := by rw [row_cell (HS3.row 1 rfl)]; rfl
  have c2 : w3.cell? ⟨g2, 2, none⟩ = some (.int .i64 m) := by rw [row_cell (HS3.row 1 rfl)]; rfl
  go_wp2_with (first | refine wl_ld HS3 2 rfl rfl 23 _ rfl rfl Tryd.underlying23 rfl (by rw [bv_size, hs]; exact info_dg) ?_ | refine wl_ld HS3 0 rfl rfl 23 _ rfl rfl Tryd.underlying23 rfl (by rw [bv_size, hx]; exact info_dg) ?_)
  refine (C1.out w3 (HTB _ HS3.hb)).mono ?_
  rintro e w4 ⟨rfl, b4⟩
  have HS4 := HS3.keep b4
  clear HS3 c0 c1 c2
  go_wp2_with (first | refine wl_al HS4 rfl 23 rfl (bv (List.replicate 32 0)) (by kernel_rfl) ?_)
  intro g5 w5 HS5
  go_wp2_with (first | refine wl_st HS5 0 rfl rfl 23 _ _ rfl rfl rfl (by rw [bv_size, HDL.out]; exact info_dg) (by rw [bv_size, bv_size, HDL.out]; rfl) (bv_one _) ?_)
  intro w6 HS6
  have c0 : w6.cell? ⟨g2, 0, none⟩ = some (.int .i64 i) := by rw [row_cell (HS6.row 2 rfl)]; rfl
  have c2 : w6.cell? ⟨g2, 2, none⟩ = some (.int .i64 m) := by rw [row_cell (HS6.row 2 rfl)]; rfl
  clear HS4 HS5
  go_wp2_with (first | refine wl_ld HS6 3 rfl rfl 23 _ rfl rfl Tryd.underlying23 rfl (by rw [bv_size, hs]; exact info_dg) ?_ | refine wl_ld HS6 0 rfl rfl 23 _ rfl rfl Tryd.underlying23 rfl (by rw [bv_size, HDL.out]; exact info_dg) ?_)
  refine (C2.out w6 (HTB _ HS6.hb)).mono ?_
  rintro e w7 ⟨rfl, b7⟩
  have HS7 := HS6.keep b7
  clear HS6 c0 c2
  go_wp2_with (first | refine wl_al HS7 rfl 23 rfl (bv (List.replicate 32 0)) (by kernel_rfl) ?_)
  intro g8 w8 HS8
  go_wp2_with (first | refine wl_st HS8 0 rfl rfl 23 _ _ rfl rfl rfl (by rw [bv_size, HEL.out]; exact info_dg) (by rw [bv_size, bv_size, HEL.out]; rfl) (bv_one _) ?_)
  intro w9 HS9
  have c0 : w9.cell? ⟨g2, 0, none⟩ = some (.int .i64 i) := by rw [row_cell (HS9.row 3 rfl)]; rfl
  have c1 : w9.cell? ⟨g2, 1, none⟩ = some (.int .i64 j) := by rw [row_cell (HS9.row 3 rfl)]; rfl
  clear HS7 HS8
  go_wp2_with (first | refine wl_ld HS9 4 rfl rfl 23 _ rfl rfl Tryd.underlying23 rfl (by rw [bv_size, hs]; exact info_dg) ?_ | refine wl_ld HS9 2 rfl rfl 23 _ rfl rfl Tryd.underlying23 rfl (by rw [bv_size, hx]; exact info_dg) ?_)
  refine (C3.out w9 (HTB _ HS9.hb)).mono ?_
  rintro e wa ⟨rfl, ba⟩
  have HSa := HS9.keep ba
  clear HS9 c0 c1
  go_wp2_with (first | refine wl_al HSa rfl 23 rfl (bv (List.replicate 32 0)) (by kernel_rfl) ?_)
  intro gb wb HSb
  go_wp2_with (first | refine wl_st HSb 0 rfl rfl 23 _ _ rfl rfl rfl (by rw [bv_size, HEL.out]; exact info_dg) (by rw [bv_size, bv_size, HEL.out]; rfl) (bv_one _) ?_)
  intro wc HSc
  have c1 : wc.cell? ⟨g2, 1, none⟩ = some (.int .i64 j) := by rw [row_cell (HSc.row 4 rfl)]; rfl
  have c2 : wc.cell? ⟨g2, 2, none⟩ = some (.int .i64 m) := by rw [row_cell (HSc.row 4 rfl)]; rfl
  clear HSa HSb
  have heq := HEQ.out wc
  by_cases hjm : (j : Int) < (m : Int)
  · go_wp2_with (first | refine wl_ldg HSc 1 rfl 23 _ rfl rfl Tryd.underlying23 rfl (by rw [bv_size, HEL.out]; exact info_dg) rfl ?_ | refine wl_ldg HSc 0 rfl 23 _ rfl rfl Tryd.underlying23 rfl (by rw [bv_size, HEL.out]; exact info_dg) rfl ?_)
    go_ret
    exact ⟨rfl, HSc.hb⟩
  · have hDx := HDX.out (by omega)
    subst hDx
    have heq2 := run_equal_bv (P := Tryd.prog) wc (d := 9998) Tryd.underlying23 Tryd.underlying5 (by kernel_rfl) D D HDL.out HDL.out
    go_wp2_with (first | refine wl_ldg HSc 1 rfl 23 _ rfl rfl Tryd.underlying23 rfl (by rw [bv_size, HEL.out]; exact info_dg) rfl ?_ | refine wl_ldg HSc 0 rfl 23 _ rfl rfl Tryd.underlying23 rfl (by rw [bv_size, HEL.out]; exact info_dg) rfl ?_ | refine wl_ldg HSc 2 rfl 23 _ rfl rfl Tryd.underlying23 rfl (by rw [bv_size, HDL.out]; exact info_dg) rfl ?_ | refine wl_ldg HSc 3 rfl 23 _ rfl rfl Tryd.underlying23 rfl (by rw [bv_size, HDL.out]; exact info_dg) rfl ?_)
    go_ret
    exact ⟨rfl, HSc.hb⟩
theorem onetimeSteps_walk (s x : List UInt8) (i j m : Int) (w : World) (hT : Tab w) (hs : s.length = 32) (hx : x.length = 32) :
    Calls Tryd.prog 4 #[.agg (bv s), .agg #[.int .i64 i, .int .i64 j, .int .i64 m], .agg (bv x)] w fun e w' => e = .returned (.bool true) ∧ Below w.heap.size w w' := by
  by_cases h : 0 ≤ i ∧ i < 133 ∧ 0 ≤ j ∧ j ≤ m ∧ m ≤ 3
  · have := onetimeSteps_yes s x i.toNat j.toNat (m - j).toNat (3 - m).toNat w hT hs hx (by omega) (by omega) (by omega)
    rwa [show ((i.toNat : Nat) : Int) = i from by omega, show ((j.toNat : Nat) : Int) = j from by omega, show ((j.toNat + (m - j).toNat : Nat) : Int) = m from by omega] at this
  · exact onetimeSteps_no s x i j m w h
set_option maxRecDepth 100000 in
theorem onetimeSteps_holds : Rows.OnetimeStepsCardSaid := onetimeSteps.card_of_walk fun H enc W base v0 v1 v2 d0 d1 d2 p0 p1 p2 h0 k0 h1 k1 h2 k2 hsz hL => by
  obtain ⟨s, hs, rfl⟩ := open_bytes Tryd.underlying23 Tryd.underlying5 (by kernel_rfl) (by kernel_rfl) h0 k0
  obtain ⟨i, j, m, rfl, _⟩ := open_three' Tryd.underlying25 rfl rfl rfl rfl rfl rfl Tryd.underlying3 (by kernel_rfl) (by kernel_rfl) h1 k1
  obtain ⟨x, hx, rfl⟩ := open_bytes Tryd.underlying23 Tryd.underlying5 (by kernel_rfl) (by kernel_rfl) h2 k2
  exact onetimeSteps_walk s x i j m W (table_of hL) hs hx
#print axioms onetimeSteps_holds
end Go.Proofs.YtkgdjddcnlkppaaDoor
