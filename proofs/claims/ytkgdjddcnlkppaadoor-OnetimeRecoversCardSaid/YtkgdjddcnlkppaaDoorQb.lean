/- One-time signatures: the salt, the secrets, digests out of bytes, of both. -/
import Derived.Test.YtkgdjddcnlkppaaDoorQa
import Derived.Test.YtkgdjddcnlkppaaDoorDg
namespace Go.Proofs.YtkgdjddcnlkppaaDoor
open Go.RowKit Cop
set_option linter.unusedVariables false
set_option linter.unusedSimpArgs false
set_option maxRecDepth 100000 in
set_option maxHeartbeats 4000000 in
theorem salted_a (s : List UInt8) (w : World)(hT : Tab w) (hs : s.length = 32) : Calls Tryd.prog 41 #[.agg (bv s)] w fun e w' => e = .returned (.agg (bv (saltD s))) ∧ Below w.heap.size w w' := by
  have hDl := saltD_length s
  have CC := Lib.hid (fun w' (hb : Below w.heap.size w w') => child_ok s [115, 97, 108, 116] 0 w' (hT.below hb) hs (by decide) (by decide) (by decide))
  obtain ⟨D, hD⟩ : ∃ y, saltD s = y := ⟨_, rfl⟩
  rw [show childD s [115, 97, 108, 116] 0 = D from hD, show ((0 : Nat) : Int) = 0 from rfl] at CC
  rw [hD] at hDl ⊢
  have HDL := Lib.hid hDl
  have HS0 := Sep.start w
  clear hD hDl
  go_enter Tryd.func41, Tryd.ntmps41
  go_wp2_with (first | refine wl_bx HS0 rfl 23 _ rfl (bv s) rfl ?_)
  intro g1 w1 HS1
  go_wp2_with (first | refine wl_al HS1 rfl 23 rfl (bv (List.replicate 32 0)) (by kernel_rfl) ?_)
  intro g2 w2 HS2
  clear HS0 HS1
  go_wp2_with (first | refine wl_ld HS2 1 rfl rfl 23 _ rfl rfl Tryd.underlying23 rfl (dgS hs) ?_)
  refine Calls.mono (CC.out w2 HS2.hb) ?_
  rintro e w3 ⟨rfl, b3⟩
  have HS3 := HS2.keep b3
  clear HS2
  go_wp2_with (first | refine wl_al HS3 rfl 23 rfl (bv (List.replicate 32 0)) (by kernel_rfl) ?_)
  intro g4 w4 HS4
  go_wp2_with (first | refine wl_st HS4 0 rfl rfl 23 _ _ rfl rfl rfl (dgS HDL.out) (dgE rfl HDL.out) (bv_one _) ?_)
  intro w5 HS5
  go_wp2_with (first | refine wl_ld HS5 0 rfl rfl 23 _ rfl rfl Tryd.underlying23 rfl (dgS HDL.out) ?_ | refine wl_st HS5 1 rfl rfl 23 _ _ rfl rfl rfl (dgS HDL.out) (dgE rfl HDL.out) (bv_one _) ?_)
  intro w6 HS6
  go_wp2_with fail
  exact ret_row rfl rfl g2 rfl 23 (bv D) (0, 0) _ (HS6.row 1 rfl) Tryd.underlying23 rfl (dgS HDL.out) ⟨rfl, HS6.hb⟩
set_option maxRecDepth 100000 in
set_option maxHeartbeats 4000000 in
theorem salt_b (s : List UInt8) (w : World) (hs : s.length = 32) : Calls Tryd.prog 43 #[.agg (bv s)] w fun e w' => e = .returned (.agg (bv (saltD s))) ∧ Below w.heap.size w w' := by
  have hDl := saltD_length s
  have CC := Lib.hid (fun w' (hb : Below w.heap.size w w') => childB_ok s [115, 97, 108, 116] 0 w' hs (by decide) (by decide) (by decide))
  obtain ⟨D, hD⟩ : ∃ y, saltD s = y := ⟨_, rfl⟩
  rw [show childD s [115, 97, 108, 116] 0 = D from hD, show ((0 : Nat) : Int) = 0 from rfl] at CC
  rw [hD] at hDl ⊢
  have HDL := Lib.hid hDl
  have HS0 := Sep.start w
  clear hD hDl
  go_enter Tryd.func43, Tryd.ntmps43
  go_wp2_with (first | refine wl_bx HS0 rfl 23 _ rfl (bv s) rfl ?_)
  intro g1 w1 HS1
  go_wp2_with (first | refine wl_al HS1 rfl 23 rfl (bv (List.replicate 32 0)) (by kernel_rfl) ?_)
  intro g2 w2 HS2
  clear HS0 HS1
  go_wp2_with (first | refine wl_ld HS2 1 rfl rfl 23 _ rfl rfl Tryd.underlying23 rfl (dgS hs) ?_)
  refine Calls.mono (CC.out w2 HS2.hb) ?_
  rintro e w3 ⟨rfl, b3⟩
  have HS3 := HS2.keep b3
  clear HS2
  go_wp2_with (first | refine wl_al HS3 rfl 23 rfl (bv (List.replicate 32 0)) (by kernel_rfl) ?_)
  intro g4 w4 HS4
  go_wp2_with (first | refine wl_st HS4 0 rfl rfl 23 _ _ rfl rfl rfl (dgS HDL.out) (dgE rfl HDL.out) (bv_one _) ?_)
  intro w5 HS5
  go_wp2_with (first | refine wl_ld HS5 0 rfl rfl 23 _ rfl rfl Tryd.underlying23 rfl (dgS HDL.out) ?_ | refine wl_st HS5 1 rfl rfl 23 _ _ rfl rfl rfl (dgS HDL.out) (dgE rfl HDL.out) (bv_one _) ?_)
  intro w6 HS6
  go_wp2_with fail
  exact ret_row rfl rfl g2 rfl 23 (bv D) (0, 0) _ (HS6.row 1 rfl) Tryd.underlying23 rfl (dgS HDL.out) ⟨rfl, HS6.hb⟩
set_option maxRecDepth 100000 in
set_option maxHeartbeats 4000000 in
theorem secret_a (s : List UInt8) (i : Nat) (w : World) (hT : Tab w) (hs : s.length = 32) (hi : i ≤ 9223372036854775807) : Calls Tryd.prog 42 #[.agg (bv s), .int .i64 i] w fun e w' => e = .returned (.agg (bv (secretD s i))) ∧ Below w.heap.size w w' := by
  have hDl := secretD_length s i
  have CC := Lib.hid (fun w' (hb : Below w.heap.size w w') => child_ok s [99, 104, 97, 105, 110] i w' (hT.below hb) hs (by decide) (by decide) hi)
  obtain ⟨D, hD⟩ : ∃ y, secretD s i = y := ⟨_, rfl⟩
  rw [show childD s [99, 104, 97, 105, 110] i = D from hD] at CC
  rw [hD] at hDl ⊢
  have HDL := Lib.hid hDl
  have HS0 := Sep.start w
  clear hD hDl
  go_enter Tryd.func42, Tryd.ntmps42
  go_wp2_with (first | refine wl_bx HS0 rfl 23 _ rfl (bv s) rfl ?_)
  intro g1 w1 HS1
  go_wp2_with (first | refine wl_al HS1 rfl 23 rfl (bv (List.replicate 32 0)) (by kernel_rfl) ?_)
  intro g2 w2 HS2
  clear HS0 HS1
  go_wp2_with (first | refine wl_ld HS2 1 rfl rfl 23 _ rfl rfl Tryd.underlying23 rfl (dgS hs) ?_)
  refine Calls.mono (CC.out w2 HS2.hb) ?_
  rintro e w3 ⟨rfl, b3⟩
  have HS3 := HS2.keep b3
  clear HS2
  go_wp2_with (first | refine wl_al HS3 rfl 23 rfl (bv (List.replicate 32 0)) (by kernel_rfl) ?_)
  intro g4 w4 HS4
  go_wp2_with (first | refine wl_st HS4 0 rfl rfl 23 _ _ rfl rfl rfl (dgS HDL.out) (dgE rfl HDL.out) (bv_one _) ?_)
  intro w5 HS5
  go_wp2_with (first | refine wl_ld HS5 0 rfl rfl 23 _ rfl rfl Tryd.underlying23 rfl (dgS HDL.out) ?_ | refine wl_st HS5 1 rfl rfl 23 _ _ rfl rfl rfl (dgS HDL.out) (dgE rfl HDL.out) (bv_one _) ?_)
  intro w6 HS6
  go_wp2_with fail
  exact ret_row rfl rfl g2 rfl 23 (bv D) (0, 0) _ (HS6.row 1 rfl) Tryd.underlying23 rfl (dgS HDL.out) ⟨rfl, HS6.hb⟩
theorem room_ok (l : List UInt8) (A : Option Addr) (c : Nat) (i n : Nat) (w : World) (h : i + n ≤ l.length) (hl : l.length ≤ 9223372036854775807) :
    Calls Tryd.prog 47 #[.slice A l.length c, .int .i64 i, .int .i64 n] w fun e w' => e = .returned (.int .i64 0) ∧ w = w' := by
  have h1 : ¬ (i : Int) < 0 := by omega
  have h2 : ¬ (l.length : Int) < (i : Int) := by omega
  have h3 : ¬ (l.length : Int) - (i : Int) < (n : Int) := by omega
  go_enter Tryd.func47, Tryd.ntmps47
  go_wp2
  go_ret
  exact ⟨rfl, rfl⟩
set_option maxRecDepth 100000 in
set_option maxHeartbeats 4000000 in
theorem digestAt_a (l : List UInt8) (v : Value) (i : Nat) (w : World) (hR : Rd w v l.length 1 (bl l)) (hi : i + 32 ≤ l.length) (hl : l.length ≤ 9223372036854775000) :
    Calls Tryd.prog 29 #[v, .int .i64 i] w fun e w' => e = .returned (.tuple #[.agg (bv ((l.drop i).take 32)), .int .i64 ((i : Int) + 32), .int .i64 0]) ∧ Below w.heap.size w w' := by
  obtain ⟨b, o, c2, hR2, hc2, hc3, hsl⟩ := rd_sub hR Tryd.underlying33 info_u8' i 32 (by decide) hi
  obtain ⟨D, hD⟩ : ∃ y, (l.drop i).take 32 = y := ⟨_, rfl⟩
  have hDl : D.length = 32 := by rw [← hD, List.length_take, List.length_drop]; omega
  rw [hD] at hR2 ⊢
  have HDL := Lib.hid hDl
  have HSL := Lib.hid hsl
  obtain ⟨A, c, rfl, hc, hcm⟩ := hR.shape
  have CR := Lib.hid (fun w => room_ok l A c i 32 w hi (by omega))
  rw [show ((32 : Nat) : Int) = 32 from rfl] at CR HSL
  have HS0 := (Sep.start w).arg0 hR2
  have hi2 : (i : Int) + 32 ≤ (l.length : Int) := by omega
  clear hD hDl hsl hR hR2
  go_enter Tryd.func29, Tryd.ntmps29
  go_wp2_with (first | refine wl_al HS0 rfl 23 rfl (bv (List.replicate 32 0)) (by kernel_rfl) ?_)
  intro g1 w1 HS1
  clear HS0
  go_wp2_with fail
  refine Calls.mono (CR.out w1) ?_
  rintro e w2 ⟨rfl, rfl⟩
  have e6 := run_arrayAt (P := Tryd.prog) w1 23 5 32 (some ⟨b, o, none⟩) 32 c2 Tryd.underlying23 (by decide)
  go_wp2_with (first | refine wl_sl2 rfl 33 _ _ _ rfl _ rfl _ _ rfl rfl _ (HSL.out _ _ _) ?_ | refine wl_ldx rfl 23 _ rfl _ rfl (.agg (bv D)) (load_rd (HS1.rd 1 rfl) rfl 32 (Nat.le_refl _) (by decide) (bv D) (dgT HDL.out) 23 Tryd.underlying23 rfl (dgS HDL.out)) ?_ | refine wl_st HS1 0 rfl rfl 23 _ _ rfl rfl rfl (dgS HDL.out) (dgE rfl HDL.out) (bv_one _) ?_)
  intro w3 HS3
  go_wp2_with fail
  exact ret_row_tmp2 rfl rfl g1 rfl 23 (bv D) (0, 0) _ (HS3.row 0 rfl) Tryd.underlying23 rfl (dgS HDL.out) (.int .i64 ((i : Int) + 32)) (.int .i64 0) rfl rfl ⟨rfl, HS3.hb⟩
set_option maxRecDepth 100000 in
set_option maxHeartbeats 4000000 in
theorem at_b (l : List UInt8) (v : Value) (i : Nat) (w : World) (hR : Rd w v l.length 1 (bl l)) (hi : 32 * i + 32 ≤ l.length) (hl : l.length ≤ 9223372036854775000) :
    Calls Tryd.prog 33 #[v, .int .i64 i] w fun e w' => e = .returned (.agg (bv (atD l i))) ∧ Below w.heap.size w w' := by
  obtain ⟨D, hD⟩ : ∃ y, atD l i = y := ⟨_, rfl⟩
  have hDl : D.length = 32 := by rw [← hD]; exact atD_length l i hi
  have hget : ∀ k, k < 32 → l.getD (32 * i + k) 0 = D.getD k 0 := fun k hk => by
    rw [← hD, atD]
    simp only [List.getD, List.getElem?_take, List.getElem?_drop, hk, if_true]
  rw [hD]
  have HG := Lib.hid hget
  have HDL := Lib.hid hDl
  have HS0 := (Sep.start w).arg0 hR
  obtain ⟨A, c, rfl, hc, hcm⟩ := hR.shape
  have hi2 : 32 * (i : Int) + 32 ≤ (l.length : Int) := by omega
  clear hD hDl hget hR
  go_enter Tryd.func33, Tryd.ntmps33
  go_wp2_with (first | refine wl_al HS0 rfl 23 rfl (bv (List.replicate 32 0)) (by kernel_rfl) ?_)
  intro g1 w1 HS1
  go_wp2_with (first | refine wl_al HS1 rfl 23 rfl (bv (List.replicate 32 0)) (by kernel_rfl) ?_)
  intro g2 w2 HS2
  clear HS0 HS1
  go_wp2
  go_loopw [6] (fun s6 wr => ∃ k : Nat, k ≤ 32 ∧ s6 = .int .i64 k ∧ Sep w.heap.size w wr [.row g2 (bv (D.take k ++ List.replicate (32 - k) 0)) 23, .row g1 (bv (List.replicate 32 0)) 23, .rd (.slice A l.length c) l.length 1 (bl l)]) (fun s6 _ => 32 - (intOf s6).toNat)
  case atStart => exact ⟨0, by omega, rfl, HS2⟩
  case round =>
    clear HS2
    obtain ⟨k, hk, rfl, HSi⟩ := hrel
    by_cases hlt : k < 32
    · have hlt' : (k : Int) < 32 := by omega
      obtain ⟨b, o, rfl, hcell⟩ := rd_at (HSi.rd 2 rfl) (32 * i + k) (by omega)
      rw [HG.out k hlt] at hcell
      obtain ⟨x, hx⟩ : ∃ x, D.getD k 0 = x := ⟨_, rfl⟩
      rw [hx] at hcell
      have hset : (bv (D.take k ++ List.replicate (32 - k) 0)).setIfInBounds k (.int .u8 (x.toNat : Int)) = bv (D.take (k + 1) ++ List.replicate (32 - (k + 1)) 0) := by
        have hkl : k < D.length := by rw [HDL.out]; exact hlt
        rw [bv_set, List.set_append_right _ _ (by simp; omega), show k - (D.take k).length = 0 by simp; omega, show 32 - k = (32 - (k + 1)) + 1 from by omega, List.replicate_succ, List.set_cons_zero, List.take_succ_eq_append_getElem hkl, List.append_assoc]
        rw [← hx]
        simp [List.getD, hkl]
      have hsz : (bv (D.take k ++ List.replicate (32 - k) 0)).size = 32 := by rw [bv_size]; simp [HDL.out]; omega
      have HSET := Lib.hid hset
      have HSZ := Lib.hid hsz
      clear hx hset hsz
      go_wp2_with (refine wl_stc HSi 0 rfl rfl 5 _ _ rfl (by kernel_rfl) k (by rw [HSZ.out]; exact hlt) (y := .int .u8 (x.toNat : Int)) rfl rfl rfl rfl ?_)
      intro w3 HS3
      rw [HSET.out] at HS3
      go_wp2
      go_roundw
      case rel => exact ⟨k + 1, by omega, by go_num, HS3⟩
      case measure => simp [intOf]; omega
    · have hk32 : k = 32 := by omega
      subst hk32
      rw [show D.take 32 ++ List.replicate (32 - 32) 0 = D by rw [List.take_of_length_le (by rw [HDL.out]; exact Nat.le_refl _)]; simp] at HSi
      go_wp2_with (first | refine wl_ld HSi 0 rfl rfl 23 _ rfl rfl Tryd.underlying23 rfl (dgS HDL.out) ?_ | refine wl_st HSi 1 rfl rfl 23 _ _ rfl rfl rfl (dgS HDL.out) (dgE rfl HDL.out) (bv_one _) ?_)
      intro w6 HS6
      go_wp2_with fail
      exact ret_row rfl rfl g1 rfl 23 (bv D) (0, 0) _ (HS6.row 1 rfl) Tryd.underlying23 rfl (dgS HDL.out) ⟨rfl, HS6.hb⟩
end Go.Proofs.YtkgdjddcnlkppaaDoor
