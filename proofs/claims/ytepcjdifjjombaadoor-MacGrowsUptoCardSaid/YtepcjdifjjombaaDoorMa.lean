import Derived.Test.YtepcjdifjjombaaDoorTe
namespace Go.Proofs.YtepcjdifjjombaaDoor
open Go.RowKit Cop
set_option linter.unusedVariables false
set_option linter.unusedSimpArgs false
/-- The keyed digest. -/
def hmac (k m : List UInt8) : List UInt8 := sha (kpad (key64 k) 0x5c ++ sha (kpad (key64 k) 0x36 ++ m))
theorem hmac_length (k m : List UInt8) : (hmac k m).length = 32 := sha_length _
set_option maxHeartbeats 4000000 in
theorem mac_a (k m : List UInt8) (vk vm : Value) (w : World) (hT : Tab w) (hRk : Rd w vk k.length 1 (bl k)) (hRm : Rd w vm m.length 1 (bl m)) (hk : k.length ≤ 140737488355000) (hm : m.length ≤ 140737488355000) :
    Calls Tryd.prog 42 #[vk, vm] w fun e w' => e = .returned (.agg (bv (hmac k m))) ∧ Below w.heap.size w w' := by
  obtain ⟨D, hD⟩ : ∃ x, hmac k m = x := ⟨_, rfl⟩
  have hDl : D.length = 32 := by rw [← hD]; exact hmac_length k m
  rw [hD]
  have HD := Lib.hid hD
  have HDL := Lib.hid hDl
  have hTB := hT.base
  obtain ⟨A, c, rfl, hc, hcm⟩ := hRk.shape
  obtain ⟨Am, cm, rfl, hc2, hcm2⟩ := hRm.shape
  have HS := ((Sep.start w).arg0 hRk).arg0 hRm
  clear hD hDl hRk hRm
  go_enter Tryd.func42, Tryd.ntmps42
  go_wp2_with (refine wl_al HS rfl 32 rfl (bv (List.replicate 32 0)) (by kernel_rfl) ?_)
  intro ga w1 HS1
  go_wp2_with fail
  refine (macNew_m _ k w1 hTB hk 2 rfl HS1).mono ?_
  rintro e w2 ⟨gk, g1, g2, v1, v2, rfl, HS2⟩
  have hl1 := kpad_length (key64 k) 0x36 (key64_length k)
  have hl2 := kpad_length (key64 k) 0x5c (key64_length k)
  obtain ⟨I, hI⟩ : ∃ x, kpad (key64 k) 0x36 = x := ⟨_, rfl⟩
  obtain ⟨O, hO⟩ : ∃ x, kpad (key64 k) 0x5c = x := ⟨_, rfl⟩
  have HDE := Lib.hid (show sha (O ++ sha (I ++ m)) = D by rw [← HD.out, hmac, hI, hO])
  rw [hI, hO] at HS2
  rw [hI] at hl1
  rw [hO] at hl2
  have HL1 := Lib.hid hl1
  have HL2 := Lib.hid hl2
  clear HS1 hI hO hl1 hl2 HD
  go_wp2_with fail
  refine (keyWrite_m gk g1 g2 v1 _ I m w2 hTB (by rw [HL1.out]; omega) ((HS2.front 6).front 3 |>.front 3 |>.front 3)).mono ?_
  rintro e w3 ⟨rfl, v3, HS3⟩
  clear HS2
  go_wp2_with fail
  refine (keySum_m gk g1 g2 v3 v2 (I ++ m) O w3 hTB (by rw [List.length_append, HL1.out]; omega) (by rw [HL2.out]; decide) ((HS3.front 5).front 5 |>.front 4 |>.front 4 |>.front 4)).mono ?_
  rintro e w4 ⟨rfl, HS4⟩
  rw [HDE.out]
  clear HS3
  go_wp2_with (first | refine wl_st HS4 6 rfl rfl 32 _ _ rfl rfl rfl (by rw [bv_size, HDL.out]; exact info_dg) (by rw [bv_size, bv_size, HDL.out]; rfl) (bv_one _) ?_)
  intro w9 HSa
  go_wp2_with fail
  exact ret_row rfl rfl ga rfl 32 (bv D) (0, 0) _ (HSa.row 6 rfl) Tryd.underlying32 rfl (by rw [bv_size, HDL.out]; exact info_dg) ⟨rfl, HSa.hb⟩
end Go.Proofs.YtepcjdifjjombaaDoor
