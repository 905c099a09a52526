import Derived.Test.YtlhebogbbkjahaaDoorCc
namespace Go.Proofs.YtlhebogbbkjahaaDoor
open Go.RowKit Cop
set_option linter.unusedVariables false
set_option linter.unusedSimpArgs false
set_option maxRecDepth 100000 in
set_option maxHeartbeats 4000000 in
/-- of. -/
theorem of_a (k : UInt8) (L : List (Value × List UInt8)) (vs : Value) (w : World) (hT : Tab w) (hR : Rd w vs L.length 1 (L.map Prod.fst)) (hL : ∀ p ∈ L, Rd w p.1 p.2.length 1 (bl p.2)) (hsum : (allB L).length ≤ 140737488354999) :
    Calls Tryd.prog 65 #[.int .u8 k.toNat, vs] w fun e w' => e = .returned (.agg (bv (sha (k :: allB L)))) ∧ Below w.heap.size w w' := by
  have CC := Lib.hid (fun w' (hb : Below w.heap.size w w') => concat_bytes L vs w' (hR.below hb) (fun p hp => (hL p hp).below hb) (by omega))
  have CS := Lib.hid (sum_a (k :: allB L))
  have hDl := sha_length (k :: allB L)
  obtain ⟨D, hD⟩ : ∃ x, sha (k :: allB L) = x := ⟨_, rfl⟩
  rw [hD] at CS hDl ⊢
  have HDL := Lib.hid hDl
  have HTB := hT.base
  obtain ⟨A, c, rfl, hc, hcm⟩ := hR.shape
  obtain ⟨T, hTt⟩ : ∃ x, allB L = x := ⟨_, rfl⟩
  rw [hTt] at CC CS hsum
  have hk8 := u8_lt k
  have HS0 := Sep.start w
  obtain ⟨KT, hKT⟩ : ∃ x, k :: T = x := ⟨_, rfl⟩
  have hkt : KT.length = T.length + 1 := by rw [← hKT]; rfl
  rw [hKT] at CS
  have HKT := Lib.hid (show [k] ++ T = KT from hKT)
  have HKL := Lib.hid (show 1 + T.length = KT.length by omega)
  have hkt9 : KT.length ≤ 140737488355000 := by omega
  clear hD hDl hR hL hTt hKT hkt
  go_enter Tryd.func65, Tryd.ntmps65
  go_wp2_with (refine wl_al HS0 rfl 33 rfl (bv (List.replicate 32 0)) (by kernel_rfl) ?_)
  intro ga w1 HS1
  go_wp2_with fail
  have HS2 := HS1.builtB 5 [k] (by simp)
  refine (CC.out _ HS2.hb).mono ?_
  rintro e w3 ⟨v3, rfl, b3, ho3⟩
  have HS3 := HS2.made b3 ho3
  clear HS0 HS1 b3 ho3
  go_wp2_with (refine wl_apb (xs := [k]) HS3 1 rfl rfl rfl (HS3.own 0 rfl).rd rfl rfl KT.length KT HKL.out HKT.out (by omega) ?_)
  intro v4 w4 HS4 _
  obtain ⟨A4, c4, rfl, hc4⟩ := (HS4.own 1 rfl).sl
  clear HS2 HS3
  go_wp2_with fail
  refine (CS.out _ w4 (HTB _ HS4.hb) (HS4.own 1 rfl).rd (by omega)).mono ?_
  rintro e w5 ⟨rfl, b5⟩
  have HS5 := HS4.keep b5
  go_wp2_with (first | refine wl_st HS5 2 rfl rfl 33 _ _ rfl rfl rfl (by rw [bv_size, HDL.out]; exact info_dg) (by rw [bv_size, bv_size, HDL.out]; rfl) (bv_one _) ?_)
  intro w6 HS6
  go_wp2_with fail
  exact ret_row rfl rfl ga rfl 33 (bv D) (0, 0) _ (HS6.row 2 rfl) Tryd.underlying33 rfl (by rw [bv_size, HDL.out]; exact info_dg) ⟨rfl, HS6.hb⟩
end Go.Proofs.YtlhebogbbkjahaaDoor
