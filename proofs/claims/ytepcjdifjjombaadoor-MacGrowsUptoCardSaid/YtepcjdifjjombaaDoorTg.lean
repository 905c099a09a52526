import Derived.Test.YtepcjdifjjombaaDoorMa
namespace Go.Proofs.YtepcjdifjjombaaDoor
open Go.RowKit Cop
set_option linter.unusedVariables false
set_option linter.unusedSimpArgs false
theorem padx_at (N : Nat) (k : List UInt8) (i : Nat) (hi : i < N) : (k ++ (List.replicate N 0).drop k.length).getD i 0 = if i < k.length then k.getD i 0 else 0 := by
  by_cases h : i < k.length
  · rw [if_pos h]; simp [List.getD, List.getElem?_append_left h, h]
  · rw [if_neg h]; simp only [List.getD, List.getElem?_append_right (Nat.le_of_not_lt h), List.getElem?_drop, List.getElem?_replicate]
    split <;> rfl
theorem take_map_succ (xs : List UInt8) (b : UInt8) (i : Nat) (h : i < xs.length) : (xs.take i).map (· ^^^ b) ++ [xs.getD i 0 ^^^ b] = (xs.take (i + 1)).map (· ^^^ b) := by
  rw [List.take_succ_eq_append_getElem h, List.map_append]
  simp [List.getD, h]
set_option maxHeartbeats 8000000 in
theorem refmac_gen (sha : List UInt8 → List UInt8) (sha_length : ∀ l, (sha l).length = 32) (sum_b : ∀ (l : List UInt8) (v : Value) (w : World), Rd w v l.length 1 (bl l) → l.length ≤ 140737488355000 → Calls Tryd.prog 21 #[v] w fun e w' => e = .returned (.agg (bv (sha l))) ∧ Below w.heap.size w w')
    (k m D : List UInt8) (K I O : List UInt8) (hKI : (K ++ (List.replicate 64 0).drop K.length).map (· ^^^ 0x36) = I) (hKO : (K ++ (List.replicate 64 0).drop K.length).map (· ^^^ 0x5c) = O) (hD : sha (O ++ sha (I ++ m)) = D) (hK : K = if k.length ≤ 64 then k else sha k)
    (vk vm : Value) (w : World) (hRk : Rd w vk k.length 1 (bl k)) (hRm : Rd w vm m.length 1 (bl m)) (hk : k.length ≤ 140737488351232) (hm : m.length ≤ 140737488354900) :
    Calls Tryd.prog 41 #[vk, vm] w fun e w' => e = .returned (.agg (bv D)) ∧ Below w.heap.size w w' := by
  have SB := Lib.hid sum_b
  have SL := Lib.hid sha_length
  have HDL := Lib.hid (show D.length = 32 by rw [← hD]; exact sha_length _)
  have hKl : K.length ≤ 64 := by
    rw [hK]; split
    · assumption
    · rw [sha_length]; decide
  have HPX := Lib.hid (fun i hi => padx_at 64 K i hi)
  obtain ⟨xs, hxs⟩ : ∃ x, K ++ (List.replicate 64 0).drop K.length = x := ⟨_, rfl⟩
  have hxl : xs.length = 64 := by rw [← hxs]; simp; omega
  rw [hxs] at hKI hKO HPX
  have HKI := Lib.hid hKI
  have HKO := Lib.hid hKO
  have HD := Lib.hid hD
  have HXL := Lib.hid hxl
  obtain ⟨jI, hjI⟩ : ∃ f : Nat → List UInt8, f = fun i => (xs.take i).map (· ^^^ 0x36) := ⟨_, rfl⟩
  obtain ⟨jO, hjO⟩ : ∃ f : Nat → List UInt8, f = fun i => (xs.take i).map (· ^^^ 0x5c) := ⟨_, rfl⟩
  have HjI := Lib.hid hjI
  have HjO := Lib.hid hjO
  have HT1 := Lib.hid (show ∀ i, i < 64 → jI i ++ [xs.getD i 0 ^^^ 0x36] = jI (i + 1) by intro i hi; rw [hjI]; exact take_map_succ xs 0x36 i (by omega))
  have HT2 := Lib.hid (show ∀ i, i < 64 → jO i ++ [xs.getD i 0 ^^^ 0x5c] = jO (i + 1) by intro i hi; rw [hjO]; exact take_map_succ xs 0x5c i (by omega))
  have HI0 := Lib.hid (show jI 0 = [] by rw [hjI]; rfl)
  have HO0 := Lib.hid (show jO 0 = [] by rw [hjO]; rfl)
  have HI64 := Lib.hid (show jI 64 = I by rw [hjI, ← hKI]; simp only []; rw [List.take_of_length_le (by omega)])
  have HO64 := Lib.hid (show jO 64 = O by rw [hjO, ← hKO]; simp only []; rw [List.take_of_length_le (by omega)])
  clear hjI hjO
  obtain ⟨A, c, rfl, hc, hcm⟩ := hRk.shape
  obtain ⟨Am, cm, rfl, hc2, hcm2⟩ := hRm.shape
  have HS := ((Sep.start w).arg0 hRk).arg0 hRm
  clear hRk hRm hKI hKO hD hxl hxs sum_b sha_length
  by_cases hle : k.length ≤ 64
  · have hle' : ¬ (64 : Int) < (k.length : Int) := by omega
    have HKK := Lib.hid (show K = k by rw [hK, if_pos hle])
    clear hK
    obtain rfl := HKK.out
    go_enter Tryd.func41, Tryd.ntmps41
    go_wp2_with (refine wl_al HS rfl 32 rfl (bv (List.replicate 32 0)) (by kernel_rfl) ?_)
    intro ga w1 HSQ
    clear HS
    go_wp2
    go_loopw [6, 7, 8] (fun s6 s7 s8 wr => ∃ i : Nat, i ≤ 64 ∧ s8 = .int .i64 i ∧ Sep w.heap.size w wr (.own s6 5 1 i (bl (jI i)) :: .own s7 5 1 i (bl (jO i)) :: .row ga (bv (List.replicate 32 0)) 32 :: .rd (.slice Am m.length cm) m.length 1 (bl m) :: .rd (.slice A K.length c) K.length 1 (bl K) :: [])) (fun _ _ s8 _ => 64 - (intOf s8).toNat)
    case atStart => exact ⟨0, by omega, rfl, by rw [HI0.out, HO0.out]; exact (HSQ.made (Below.refl _ _) (Ow.nil _ _ _ _ none)).made (Below.refl _ _) (Ow.nil _ _ _ _ none)⟩
    case round =>
      clear HSQ
      obtain ⟨i, hi, rfl, HSi⟩ := hrel
      obtain ⟨A6, c6, rfl, _⟩ := (HSi.own 0 rfl).sl
      obtain ⟨A7, c7, rfl, _⟩ := (HSi.own 1 rfl).sl
      by_cases hlt : i < 64
      · have hi' : (i : Int) < 64 := by omega
        have hpx := HPX.out i hlt
        have hq1 := HT1.out i hlt
        have hq2 := HT2.out i hlt
        rw [hpx] at hq1 hq2
        have Q1 := Lib.hid hq1
        have Q2 := Lib.hid hq2
        clear hq1 hq2 hpx
        by_cases hik : i < K.length
        · have hik' : (i : Int) < (K.length : Int) := by omega
          rw [if_pos hik] at Q1 Q2
          obtain ⟨bk, ok, hA, hx⟩ := rd_at (HSi.rd 4 rfl) i hik
          cases hA
          (try rw [Nat.zero_add] at hx)
          have hx8 := u8_lt (K.getD i 0)
          generalize K.getD i 0 = x at *
          have HS1 := HSi.skip (.cells #[.int .u8 (Go.bits .xor .u8 (x.toNat : Int) 54)] 5)
          have HR1 := rd_one wr 5 (Go.bits .xor .u8 (x.toNat : Int) 54) (x ^^^ 54) (bxor8 x 54)
          go_wp2_with (refine wl_apb HS1 0 rfl rfl rfl HR1 rfl rfl (i + 1) (jI (i + 1)) rfl Q1.out (by omega) ?_)
          intro v2 w2 HS2 _
          have HS3 := HS2.skip (.cells #[.int .u8 (Go.bits .xor .u8 (x.toNat : Int) 92)] 5)
          have HR3 := rd_one w2 5 (Go.bits .xor .u8 (x.toNat : Int) 92) (x ^^^ 92) (bxor8 x 92)
          clear HS1 HR1
          go_wp2_with (refine wl_apb HS3 1 rfl rfl rfl HR3 rfl rfl (i + 1) (jO (i + 1)) rfl Q2.out (by omega) ?_)
          intro v4 w4 HS4 _
          clear HS2 HS3 HR3 HSi
          go_wp2
          go_roundw
          case rel => exact ⟨i + 1, by omega, by go_num, HS4⟩
          case measure => simp [intOf]; omega
        · have hik' : ¬ (i : Int) < (K.length : Int) := by omega
          rw [if_neg hik] at Q1 Q2
          have HS1 := HSi.skip (.cells #[.int .u8 54] 5)
          have HR1 := rd_one wr 5 54 (0 ^^^ 54) rfl
          go_wp2_with (refine wl_apb HS1 0 rfl rfl rfl HR1 rfl rfl (i + 1) (jI (i + 1)) rfl Q1.out (by omega) ?_)
          intro v2 w2 HS2 _
          have HS3 := HS2.skip (.cells #[.int .u8 92] 5)
          have HR3 := rd_one w2 5 92 (0 ^^^ 92) rfl
          clear HS1 HR1
          go_wp2_with (refine wl_apb HS3 1 rfl rfl rfl HR3 rfl rfl (i + 1) (jO (i + 1)) rfl Q2.out (by omega) ?_)
          intro v4 w4 HS4 _
          clear HS2 HS3 HR3 HSi
          go_wp2
          go_roundw
          case rel => exact ⟨i + 1, by omega, by go_num, HS4⟩
          case measure => simp [intOf]; omega
      · have hi64 : i = 64 := by omega
        subst hi64
        rw [HI64.out, HO64.out] at HSi
        have HIL := Lib.hid (show I.length = 64 by rw [← HKI.out, List.length_map]; exact HXL.out)
        have HOL := Lib.hid (show O.length = 64 by rw [← HKO.out, List.length_map]; exact HXL.out)
        obtain ⟨IM, hIM⟩ : ∃ x, I ++ m = x := ⟨_, rfl⟩
        have hIml : 64 + m.length = IM.length := by rw [← hIM, List.length_append, HIL.out]
        have HIM := Lib.hid hIM
        have HIML := Lib.hid hIml
        have hIm : IM.length ≤ 140737488355000 := by omega
        clear hlt hi hIM hIml
        go_wp2_with (refine wl_apb HSi 0 rfl rfl rfl (HSi.rd 3 rfl) rfl rfl IM.length IM HIML.out HIM.out (by omega) ?_)
        intro v2 w2 HS2 _
        obtain ⟨Av, cv, rfl, _⟩ := (HS2.own 0 rfl).sl
        clear HSi
        go_wp2_with fail
        refine (SB.out IM _ w2 (HS2.own 0 rfl).rd hIm).mono ?_
        rintro e w3 ⟨rfl, b3⟩
        have HS3 := HS2.keep b3
        have HSL := Lib.hid (SL.out IM)
        clear HS2
        obtain ⟨E, hE⟩ : ∃ x, sha IM = x := ⟨_, rfl⟩
        rw [hE] at HSL ⊢
        have HE := Lib.hid hE
        clear hE
        go_wp2_with (first | refine wl_al HS3 rfl 31 rfl (bv (List.replicate 32 0)) (by kernel_rfl) ?_)
        intro g5 w5 HS5
        go_wp2_with (first | refine wl_st HS5 0 rfl rfl 31 _ _ rfl rfl rfl (by rw [bv_size, HSL.out]; exact info_d32) (by rw [bv_size, bv_size, HSL.out]; rfl) (bv_one _) ?_)
        intro w6 HS6
        have HS7 := HS6.rowRdL 0 rfl 32 HSL.out (by decide)
        obtain ⟨OE, hOE⟩ : ∃ x, O ++ E = x := ⟨_, rfl⟩
        have hOEl : 64 + 32 = OE.length := by rw [← hOE, List.length_append, HOL.out, HSL.out]
        have HOE := Lib.hid hOE
        have HOEL := Lib.hid hOEl
        have hOE9 : OE.length ≤ 140737488355000 := by omega
        have HDE := Lib.hid (show sha OE = D by rw [← hOE, ← HE.out, ← HIM.out]; exact HD.out)
        have HRE : Rd w6 (.slice (some ⟨g5, 0, none⟩) 32 32) 32 1 (bl E) := by have := HS7.rd 0 rfl; rw [HSL.out] at this; exact this
        clear HS3 HS5 HS6 hOE hOEl
        go_wp2_with (refine wl_apb HS7 2 rfl rfl rfl HRE rfl rfl OE.length OE HOEL.out HOE.out (by omega) ?_)
        intro v8 w8 HS8 _
        obtain ⟨Av8, cv8, rfl, _⟩ := (HS8.own 2 rfl).sl
        clear HS7 HRE
        go_wp2_with fail
        refine (SB.out OE _ w8 (HS8.own 2 rfl).rd hOE9).mono ?_
        rintro e w9 ⟨rfl, b9⟩
        have HS9 := HS8.keep b9
        rw [HDE.out]
        clear HS8
        go_wp2_with (first | refine wl_st HS9 3 rfl rfl 32 _ _ rfl rfl rfl (by rw [bv_size, HDL.out]; exact info_dg) (by rw [bv_size, bv_size, HDL.out]; rfl) (bv_one _) ?_)
        intro wz HSz
        go_wp2_with fail
        exact ret_row rfl rfl ga rfl 32 (bv D) (0, 0) _ (HSz.row 3 rfl) Tryd.underlying32 rfl (by rw [bv_size, HDL.out]; exact info_dg) ⟨rfl, HSz.hb⟩
  · have hgt : (64 : Int) < (k.length : Int) := by omega
    have HKK := Lib.hid (show sha k = K by rw [hK, if_neg hle])
    have HK32 := Lib.hid (show K.length = 32 by rw [← HKK.out]; exact SL.out k)
    clear hK
    go_enter Tryd.func41, Tryd.ntmps41
    go_wp2_with (refine wl_al HS rfl 32 rfl (bv (List.replicate 32 0)) (by kernel_rfl) ?_)
    intro ga w1 HS1
    go_wp2_with fail
    refine (SB.out k _ w1 (HS1.rd 2 rfl) (by omega)).mono ?_
    rintro e w2 ⟨rfl, b2⟩
    rw [HKK.out]
    have HS2 := HS1.keep b2
    clear HS1 HS
    go_wp2_with (first | refine wl_al HS2 rfl 31 rfl (bv (List.replicate 32 0)) (by kernel_rfl) ?_)
    intro g3 w3 HS3
    go_wp2_with (first | refine wl_st HS3 0 rfl rfl 31 _ _ rfl rfl rfl (by rw [bv_size, HK32.out]; exact info_d32) (by rw [bv_size, bv_size, HK32.out]; rfl) (bv_one _) ?_)
    intro w4 HS4
    have HSQ : Sep w.heap.size w w4 [.row ga (bv (List.replicate 32 0)) 32, .rd (.slice Am m.length cm) m.length 1 (bl m), .rd (.slice (some ⟨g3, 0, none⟩) K.length K.length) K.length 1 (bl K)] := ((HS4.rowRd 0 rfl K.length rfl (by rw [HK32.out]; decide)).front 2 |>.front 2).sub (by repeat (first | exact List.nil_sublist _ | exact List.Sublist.refl _ | apply List.Sublist.cons_cons | apply List.Sublist.cons))
    clear HS2 HS3 HS4
    go_wp2_with (first | refine wl_slx rfl 31 _ rfl (.pointer (some ⟨g3, 0, none⟩)) rfl (.slice (some ⟨g3, 0, none⟩) K.length K.length) (by rw [HK32.out]; exact run_arr_all _ Tryd.underlying31 (by kernel_rfl) g3) ?_)
    go_wp2
    go_loopw [6, 7, 8] (fun s6 s7 s8 wr => ∃ i : Nat, i ≤ 64 ∧ s8 = .int .i64 i ∧ Sep w.heap.size w wr (.own s6 5 1 i (bl (jI i)) :: .own s7 5 1 i (bl (jO i)) :: .row ga (bv (List.replicate 32 0)) 32 :: .rd (.slice Am m.length cm) m.length 1 (bl m) :: .rd (.slice (some ⟨g3, 0, none⟩) K.length K.length) K.length 1 (bl K) :: [])) (fun _ _ s8 _ => 64 - (intOf s8).toNat)
    case atStart => exact ⟨0, by omega, rfl, by rw [HI0.out, HO0.out]; exact (HSQ.made (Below.refl _ _) (Ow.nil _ _ _ _ none)).made (Below.refl _ _) (Ow.nil _ _ _ _ none)⟩
    case round =>
      clear HSQ
      obtain ⟨i, hi, rfl, HSi⟩ := hrel
      obtain ⟨A6, c6, rfl, _⟩ := (HSi.own 0 rfl).sl
      obtain ⟨A7, c7, rfl, _⟩ := (HSi.own 1 rfl).sl
      by_cases hlt : i < 64
      · have hi' : (i : Int) < 64 := by omega
        have hpx := HPX.out i hlt
        have hq1 := HT1.out i hlt
        have hq2 := HT2.out i hlt
        rw [hpx] at hq1 hq2
        have Q1 := Lib.hid hq1
        have Q2 := Lib.hid hq2
        clear hq1 hq2 hpx
        by_cases hik : i < K.length
        · have hik' : (i : Int) < (K.length : Int) := by omega
          rw [if_pos hik] at Q1 Q2
          obtain ⟨bk, ok, hA, hx⟩ := rd_at (HSi.rd 4 rfl) i hik
          cases hA
          (try rw [Nat.zero_add] at hx)
          have hx8 := u8_lt (K.getD i 0)
          generalize K.getD i 0 = x at *
          have HS1 := HSi.skip (.cells #[.int .u8 (Go.bits .xor .u8 (x.toNat : Int) 54)] 5)
          have HR1 := rd_one wr 5 (Go.bits .xor .u8 (x.toNat : Int) 54) (x ^^^ 54) (bxor8 x 54)
          go_wp2_with (refine wl_apb HS1 0 rfl rfl rfl HR1 rfl rfl (i + 1) (jI (i + 1)) rfl Q1.out (by omega) ?_)
          intro v2 w2 HS2 _
          have HS3 := HS2.skip (.cells #[.int .u8 (Go.bits .xor .u8 (x.toNat : Int) 92)] 5)
          have HR3 := rd_one w2 5 (Go.bits .xor .u8 (x.toNat : Int) 92) (x ^^^ 92) (bxor8 x 92)
          clear HS1 HR1
          go_wp2_with (refine wl_apb HS3 1 rfl rfl rfl HR3 rfl rfl (i + 1) (jO (i + 1)) rfl Q2.out (by omega) ?_)
          intro v4 w4 HS4 _
          clear HS2 HS3 HR3 HSi
          go_wp2
          go_roundw
          case rel => exact ⟨i + 1, by omega, by go_num, HS4⟩
          case measure => simp [intOf]; omega
        · have hik' : ¬ (i : Int) < (K.length : Int) := by omega
          rw [if_neg hik] at Q1 Q2
          have HS1 := HSi.skip (.cells #[.int .u8 54] 5)
          have HR1 := rd_one wr 5 54 (0 ^^^ 54) rfl
          go_wp2_with (refine wl_apb HS1 0 rfl rfl rfl HR1 rfl rfl (i + 1) (jI (i + 1)) rfl Q1.out (by omega) ?_)
          intro v2 w2 HS2 _
          have HS3 := HS2.skip (.cells #[.int .u8 92] 5)
          have HR3 := rd_one w2 5 92 (0 ^^^ 92) rfl
          clear HS1 HR1
          go_wp2_with (refine wl_apb HS3 1 rfl rfl rfl HR3 rfl rfl (i + 1) (jO (i + 1)) rfl Q2.out (by omega) ?_)
          intro v4 w4 HS4 _
          clear HS2 HS3 HR3 HSi
          go_wp2
          go_roundw
          case rel => exact ⟨i + 1, by omega, by go_num, HS4⟩
          case measure => simp [intOf]; omega
      · have hi64 : i = 64 := by omega
        subst hi64
        rw [HI64.out, HO64.out] at HSi
        have HIL := Lib.hid (show I.length = 64 by rw [← HKI.out, List.length_map]; exact HXL.out)
        have HOL := Lib.hid (show O.length = 64 by rw [← HKO.out, List.length_map]; exact HXL.out)
        obtain ⟨IM, hIM⟩ : ∃ x, I ++ m = x := ⟨_, rfl⟩
        have hIml : 64 + m.length = IM.length := by rw [← hIM, List.length_append, HIL.out]
        have HIM := Lib.hid hIM
        have HIML := Lib.hid hIml
        have hIm : IM.length ≤ 140737488355000 := by omega
        clear hlt hi hIM hIml
        go_wp2_with (refine wl_apb HSi 0 rfl rfl rfl (HSi.rd 3 rfl) rfl rfl IM.length IM HIML.out HIM.out (by omega) ?_)
        intro v2 w2 HS2 _
        obtain ⟨Av, cv, rfl, _⟩ := (HS2.own 0 rfl).sl
        clear HSi
        go_wp2_with fail
        refine (SB.out IM _ w2 (HS2.own 0 rfl).rd hIm).mono ?_
        rintro e w3 ⟨rfl, b3⟩
        have HS3 := HS2.keep b3
        have HSL := Lib.hid (SL.out IM)
        clear HS2
        obtain ⟨E, hE⟩ : ∃ x, sha IM = x := ⟨_, rfl⟩
        rw [hE] at HSL ⊢
        have HE := Lib.hid hE
        clear hE
        go_wp2_with (first | refine wl_al HS3 rfl 31 rfl (bv (List.replicate 32 0)) (by kernel_rfl) ?_)
        intro g5 w5 HS5
        go_wp2_with (first | refine wl_st HS5 0 rfl rfl 31 _ _ rfl rfl rfl (by rw [bv_size, HSL.out]; exact info_d32) (by rw [bv_size, bv_size, HSL.out]; rfl) (bv_one _) ?_)
        intro w6 HS6
        have HS7 := HS6.rowRdL 0 rfl 32 HSL.out (by decide)
        obtain ⟨OE, hOE⟩ : ∃ x, O ++ E = x := ⟨_, rfl⟩
        have hOEl : 64 + 32 = OE.length := by rw [← hOE, List.length_append, HOL.out, HSL.out]
        have HOE := Lib.hid hOE
        have HOEL := Lib.hid hOEl
        have hOE9 : OE.length ≤ 140737488355000 := by omega
        have HDE := Lib.hid (show sha OE = D by rw [← hOE, ← HE.out, ← HIM.out]; exact HD.out)
        have HRE : Rd w6 (.slice (some ⟨g5, 0, none⟩) 32 32) 32 1 (bl E) := by have := HS7.rd 0 rfl; rw [HSL.out] at this; exact this
        clear HS3 HS5 HS6 hOE hOEl
        go_wp2_with (refine wl_apb HS7 2 rfl rfl rfl HRE rfl rfl OE.length OE HOEL.out HOE.out (by omega) ?_)
        intro v8 w8 HS8 _
        obtain ⟨Av8, cv8, rfl, _⟩ := (HS8.own 2 rfl).sl
        clear HS7 HRE
        go_wp2_with fail
        refine (SB.out OE _ w8 (HS8.own 2 rfl).rd hOE9).mono ?_
        rintro e w9 ⟨rfl, b9⟩
        have HS9 := HS8.keep b9
        rw [HDE.out]
        clear HS8
        go_wp2_with (first | refine wl_st HS9 3 rfl rfl 32 _ _ rfl rfl rfl (by rw [bv_size, HDL.out]; exact info_dg) (by rw [bv_size, bv_size, HDL.out]; rfl) (bv_one _) ?_)
        intro wz HSz
        go_wp2_with fail
        exact ret_row rfl rfl ga rfl 32 (bv D) (0, 0) _ (HSz.row 3 rfl) Tryd.underlying32 rfl (by rw [bv_size, HDL.out]; exact info_dg) ⟨rfl, HSz.hb⟩
end Go.Proofs.YtepcjdifjjombaaDoor
