/- A chain, or its refusal; the reference's. -/
import Derived.Test.YtkgdjddcnlkppaaDoorPh
namespace Go.Proofs.YtkgdjddcnlkppaaDoor
open Go.RowKit Cop
set_option linter.unusedVariables false
set_option linter.unusedSimpArgs false
set_option maxRecDepth 100000 in
set_option maxHeartbeats 4000000 in
theorem chainOk_a (s x : List UInt8) (i j k : Nat) (w : World) (hT : Tab w) (hs : s.length = 32) (hx : x.length = 32) (hi : i < 133) (hk : j + k ≤ 3) :
    Calls Tryd.prog 11 #[.agg (bv s), .int .i64 i, .int .i64 j, .int .i64 ((j + k : Nat) : Int), .agg (bv x)] w fun e w' => e = .returned (.tuple #[.agg (bv (chainD s i j k x)), .int .i64 0]) ∧ Below w.heap.size w w' := by
  have CA := Lib.hid (fun w hT => chain_a s x i j k w hT hs hx (by omega) (by omega))
  obtain ⟨D, hD⟩ : ∃ y, chainD s i j k x = y := ⟨_, rfl⟩
  have hDl : D.length = 32 := by rw [← hD]; exact chainD_length s i k j x hx
  rw [hD] at CA ⊢
  obtain ⟨m, hm⟩ : ∃ y, j + k = y := ⟨_, rfl⟩
  rw [hm] at hk CA ⊢
  have HDL := Lib.hid hDl
  have HS0 := Sep.start w
  have HTB := hT.base
  have h1 : ¬ (i : Int) < 0 := by omega
  have h2 : (i : Int) < 133 := by omega
  have h3 : ¬ (j : Int) < 0 := by omega
  have h4 : ¬ 3 < (j : Int) := by omega
  have h5 : ¬ (m : Int) < (j : Int) := by omega
  have h6 : ¬ 3 < (m : Int) := by omega
  clear hm hD hDl
  go_enter Tryd.func11, Tryd.ntmps11
  go_wp2_with (first | refine wl_bx HS0 rfl 23 _ rfl (bv s) rfl ?_)
  intro g1 w1 HS1
  go_wp2_with (first | refine wl_bx HS1 rfl 23 _ rfl (bv x) rfl ?_)
  intro g2 w2 HS2
  go_wp2_with (first | refine wl_al HS2 rfl 23 rfl (bv (List.replicate 32 0)) (by kernel_rfl) ?_)
  intro g3 w3 HS3
  clear HS0 HS1 HS2
  go_wp2_with (first | refine wl_ld HS3 2 rfl rfl 23 _ rfl rfl Tryd.underlying23 rfl (by rw [bv_size, hs]; exact info_dg) ?_ | refine wl_ld HS3 1 rfl rfl 23 _ rfl rfl Tryd.underlying23 rfl (by rw [bv_size, hx]; exact info_dg) ?_)
  refine (CA.out w3 (HTB _ HS3.hb)).mono ?_
  rintro e w4 ⟨rfl, b4⟩
  have HS4 := HS3.keep b4
  clear HS3
  go_wp2_with (first | refine wl_st HS4 0 rfl rfl 23 _ _ rfl rfl rfl (by rw [bv_size, HDL.out]; exact info_dg) (by rw [bv_size, bv_size, HDL.out]; rfl) (bv_one _) ?_)
  intro w6 HS6
  go_wp2_with fail
  exact ret_row_tmp rfl rfl g3 rfl 23 (bv D) (0, 0) _ (HS6.row 0 rfl) Tryd.underlying23 rfl (by rw [bv_size, HDL.out]; exact info_dg) (.int .i64 0) rfl ⟨rfl, HS6.hb⟩
set_option maxRecDepth 100000 in
set_option maxHeartbeats 4000000 in
theorem chainNo_a (s x : List UInt8) (i j m : Int) (w : World) (hs : s.length = 32) (hx : x.length = 32) (hno : ¬ (0 ≤ i ∧ i < 133 ∧ 0 ≤ j ∧ j ≤ 3 ∧ j ≤ m ∧ m ≤ 3)) :
    Calls Tryd.prog 11 #[.agg (bv s), .int .i64 i, .int .i64 j, .int .i64 m, .agg (bv x)] w fun e w' => e = .returned (.tuple #[.agg (bv (List.replicate 32 0)), .int .i64 2]) ∧ Below w.heap.size w w' := by
  have HS0 := Sep.start w
  have HNO := Lib.hid hno
  clear hno
  go_enter Tryd.func11, Tryd.ntmps11
  go_wp2_with (first | refine wl_bx HS0 rfl 23 _ rfl (bv s) rfl ?_)
  intro g1 w1 HS1
  go_wp2_with (first | refine wl_bx HS1 rfl 23 _ rfl (bv x) rfl ?_)
  intro g2 w2 HS2
  go_wp2_with (first | refine wl_al HS2 rfl 23 rfl (bv (List.replicate 32 0)) (by kernel_rfl) ?_)
  intro g3 w3 HS3
  clear HS0 HS1 HS2
  rcases (show i < 0 ∨ (¬ i < 0 ∧ 133 ≤ i) ∨ (¬ i < 0 ∧ ¬ 133 ≤ i ∧ j < 0) ∨ (¬ i < 0 ∧ ¬ 133 ≤ i ∧ ¬ j < 0 ∧ 3 < j) ∨ (¬ i < 0 ∧ ¬ 133 ≤ i ∧ ¬ j < 0 ∧ ¬ 3 < j ∧ m < j) ∨ (¬ i < 0 ∧ ¬ 133 ≤ i ∧ ¬ j < 0 ∧ ¬ 3 < j ∧ ¬ m < j ∧ 3 < m) from by have := HNO.out; omega) with h1 | ⟨h1, h2⟩ | ⟨h1, h2, h3⟩ | ⟨h1, h2, h3, h4⟩ | ⟨h1, h2, h3, h4, h5⟩ | ⟨h1, h2, h3, h4, h5, h6⟩
  all_goals
    go_wp2_with (first | refine wl_st HS3 0 rfl rfl 23 _ _ rfl rfl (cs := bv (List.replicate 32 0)) rfl (by rw [bv_size]; exact info_dg) rfl (bv_one _) ?_)
    intro w6 HS6
    go_wp2_with fail
    exact ret_row_tmp rfl rfl g3 rfl 23 (bv (List.replicate 32 0)) (0, 0) _ (HS6.row 0 rfl) Tryd.underlying23 rfl (by rw [bv_size]; exact info_dg) (.int .i64 2) rfl ⟨rfl, HS6.hb⟩
set_option maxRecDepth 100000 in
set_option maxHeartbeats 4000000 in
theorem refChain_b (s x : List UInt8) (i j k : Nat) (w : World) (hs : s.length = 32) (hx : x.length = 32) (hi : i < 256) (hk : j + k < 256) :
    Calls Tryd.prog 14 #[.agg (bv s), .int .i64 i, .int .i64 j, .int .i64 ((j + k : Nat) : Int), .agg (bv x)] w fun e w' => e = .returned (.agg (bv (chainD s i j k x))) ∧ Below w.heap.size w w' := by
  obtain ⟨D, hD⟩ : ∃ y, chainD s i j k x = y := ⟨_, rfl⟩
  have hDl : D.length = 32 := by rw [← hD]; exact chainD_length s i k j x hx
  rw [hD]
  obtain ⟨m, hm⟩ : ∃ y, j + k = y := ⟨_, rfl⟩
  rw [hm] at hk ⊢
  have HDL := Lib.hid hDl
  have HS0 := Sep.start w
  have hjm : j ≤ m := by omega
  have HCD := Lib.hid (show chainD s i j (m - j) x = D by rw [← hD, show m - j = k from by omega])
  have CL := Lib.hid (fun y j => stepD_length s i j y)
  obtain ⟨p, hp⟩ : ∃ y, UInt8.ofNat i = y := ⟨_, rfl⟩
  have HWI := Lib.hid (show IntKind.u8.wrap (i : Int) = (p.toNat : Int) by rw [← hp, byte_int i (by omega), IntKind.wrap_u8]; omega)
  have HP := Lib.hid hp
  obtain ⟨L, hL⟩ : ∃ y, [2] ++ s = y := ⟨_, rfl⟩
  have hLl : 1 + 32 = L.length := by rw [← hL, List.length_append, hs]; rfl
  have HL := Lib.hid hL
  have HLL := Lib.hid hLl
  have hL9 : L.length ≤ 33 := by omega
  clear hD hDl hm hp hL hLl
  go_enter Tryd.func14, Tryd.ntmps14
  go_wp2_with (first | refine wl_bx HS0 rfl 23 _ rfl (bv s) rfl ?_)
  intro g1 w1 HS1
  go_wp2_with (first | refine wl_bx HS1 rfl 23 _ rfl (bv x) rfl ?_)
  intro g2 w2 HS2
  go_wp2_with (first | refine wl_al HS2 rfl 23 rfl (bv (List.replicate 32 0)) (by kernel_rfl) ?_)
  intro g3 w3 HS3
  clear HS0 HS1 HS2
  go_wp2
  go_loopw [11] (fun s11 wr => ∃ (n : Nat) (y : List UInt8), n ≤ m ∧ s11 = .int .i64 n ∧ y.length = 32 ∧ chainD s i n (m - n) y = D ∧ Sep w.heap.size w wr [.row g3 (bv (List.replicate 32 0)) 23, .row g2 (bv y) 23, .row g1 (bv s) 23]) (fun s11 _ => m - (intOf s11).toNat)
  case atStart => exact ⟨j, x, hjm, rfl, hx, HCD.out, HS3⟩
  case round =>
    clear HS3
    obtain ⟨n, y, hn, rfl, hy, hch, HSi⟩ := hrel
    have HY := Lib.hid hy
    have HCH := Lib.hid hch
    clear hy hch
    by_cases hlt : n < m
    · have hlt' : (n : Int) < (m : Int) := by omega
      obtain ⟨z, hz⟩ : ∃ z, stepD s i n y = z := ⟨_, rfl⟩
      obtain ⟨q, hq⟩ : ∃ y, UInt8.ofNat n = y := ⟨_, rfl⟩
      have HWN := Lib.hid (show IntKind.u8.wrap (n : Int) = (q.toNat : Int) by rw [← hq, byte_int n (by omega), IntKind.wrap_u8]; omega)
      obtain ⟨M, hM⟩ : ∃ y, L ++ [p, q] = y := ⟨_, rfl⟩
      obtain ⟨N, hN⟩ : ∃ z, M ++ y = z := ⟨_, rfl⟩
      have hMl : L.length + 2 = M.length := by rw [← hM, List.length_append]; rfl
      have hNl : M.length + 32 = N.length := by rw [← hN, List.length_append, HY.out]
      have CS := Lib.hid (sum_b N)
      rw [show sha N = z by rw [← hz, ← hN, ← hM, ← HL.out, ← HP.out, ← hq]; rfl] at CS
      have HM := Lib.hid hM
      have HML := Lib.hid hMl
      have HN := Lib.hid hN
      have HNL := Lib.hid hNl
      have hM9 : M.length ≤ 35 := by omega
      have hN9 : N.length ≤ 67 := by omega
      have HZL := Lib.hid (show z.length = 32 by rw [← hz]; exact CL.out y n)
      have HCZ := Lib.hid (show chainD s i (n + 1) (m - (n + 1)) z = D by rw [← hz, ← chainD_succ, show m - (n + 1) + 1 = m - n from by omega]; exact HCH.out)
      clear hz hq hM hN hMl hNl
      go_wp2_with (first | refine wl_bs HSi rfl 33 5 1 1 _ rfl (bl [2]) (.int .u8 0) Tryd.underlying33 (by kernel_rfl) (by decide) (by decide) (by kernel_rfl) rfl ?_)
      intro g4 w4 HS4
      go_wp2_with (refine wl_apb (xs := [2]) HS4 0 rfl rfl rfl (Sep.rdRow HS4 3 rfl 32 hs (by decide)) rfl rfl L.length L HLL.out HL.out (by omega) ?_)
      intro v5 w5 HS5 _
      have q1 := HWI.out
      have q2 := HWN.out
      go_wp2_with (first | refine wl_bs HS5 rfl 33 5 2 1 _ rfl (bl [p, q]) (.int .u8 0) Tryd.underlying33 (by kernel_rfl) (by decide) (by decide) (by kernel_rfl) rfl ?_)
      intro g6 w6 HS6
      go_wp2_with (refine wl_apb (xs := L) (cs := [p, q]) HS6 1 rfl rfl rfl (HS6.own 0 rfl).rd rfl rfl M.length M HML.out HM.out (by omega) ?_)
      intro v7 w7 HS7 _
      go_wp2_with (refine wl_apb HS7 1 rfl rfl rfl (Sep.rdRow HS7 3 rfl 32 HY.out (by decide)) rfl rfl N.length N HNL.out HN.out (by omega) ?_)
      intro v8 w8 HS8 _
      obtain ⟨A8, c8, rfl, _⟩ := (HS8.own 1 rfl).sl
      clear HSi HS4 HS5 HS6 HS7 q1 q2
      go_wp2_with fail
      refine (CS.out _ w8 (HS8.own 1 rfl).rd (by omega)).mono ?_
      rintro e w9 ⟨rfl, b9⟩
      have HS9 := HS8.keep b9
      clear HS8
      go_wp2_with (first | refine wl_st HS9 3 rfl rfl 23 _ _ rfl rfl rfl (by rw [bv_size, HZL.out]; exact info_dg) (by rw [bv_size, bv_size, HZL.out, HY.out]) (bv_one _) ?_)
      intro wa HSa
      go_wp2
      go_roundw
      case rel => exact ⟨n + 1, z, by omega, by go_num, HZL.out, HCZ.out, HSa.sub (by repeat (first | exact List.nil_sublist _ | exact List.Sublist.refl _ | apply List.Sublist.cons_cons | apply List.Sublist.cons))⟩
      case measure => simp [intOf]; omega
    · have hnm : n = m := by omega
      subst hnm
      have HYD := Lib.hid (show y = D by have := HCH.out; rw [Nat.sub_self] at this; exact this)
      rw [HYD.out] at HSi
      go_wp2_with (first | refine wl_ld HSi 1 rfl rfl 23 _ rfl rfl Tryd.underlying23 rfl (by rw [bv_size, HDL.out]; exact info_dg) ?_ | refine wl_st HSi 0 rfl rfl 23 _ _ rfl rfl rfl (by rw [bv_size, HDL.out]; exact info_dg) (by rw [bv_size, bv_size, HDL.out]; rfl) (bv_one _) ?_)
      intro w6 HS6
      go_wp2_with fail
      exact ret_row rfl rfl g3 rfl 23 (bv D) (0, 0) _ (HS6.row 0 rfl) Tryd.underlying23 rfl (by rw [bv_size, HDL.out]; exact info_dg) ⟨rfl, HS6.hb⟩
end Go.Proofs.YtkgdjddcnlkppaaDoor
