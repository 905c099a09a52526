/- The digests of leaves and nodes. -/
import Derived.Test.YtlhebogbbkjahaaDoorCo
import Derived.Test.YtlhebogbbkjahaaDoorBx
namespace Go.Proofs.YtlhebogbbkjahaaDoor
open Go.RowKit Cop
set_option linter.unusedVariables false
set_option linter.unusedSimpArgs false
def leafD (l : List UInt8) : List UInt8 := sha (0 :: l)
def nodeD (a b : List UInt8) : List UInt8 := sha (1 :: (a ++ b))
theorem leafD_length (l : List UInt8) : (leafD l).length = 32 := sha_length _
theorem nodeD_length (a b : List UInt8) : (nodeD a b).length = 32 := sha_length _
set_option maxHeartbeats 4000000 in
set_option maxRecDepth 100000 in
theorem node_a (a b : List UInt8) (w : World) (hT : Tab w) (ha : a.length = 32) (hb : b.length = 32) :
    Calls Tryd.prog 42 #[.agg (bv a), .agg (bv b)] w fun e w' => e = .returned (.agg (bv (nodeD a b))) ∧ Below w.heap.size w w' := by
  have hDl := nodeD_length a b
  obtain ⟨D, hD⟩ : ∃ x, nodeD a b = x := ⟨_, rfl⟩
  have CO := Lib.hid (show ∀ (va vb vs : Value) (w : World), Tab w → Rd w vs 2 1 [va, vb] → Rd w va a.length 1 (bl a) → Rd w vb b.length 1 (bl b) → Calls Tryd.prog 65 #[.int .u8 1, vs] w fun e w' => e = .returned (.agg (bv D)) ∧ Below w.heap.size w w' from fun va vb vs w hT hR h1 h2 => by
    have e1 : allB [(va, a), (vb, b)] = a ++ b := by simp [allB]
    have := of_a 1 [(va, a), (vb, b)] vs w hT hR (by simp; exact ⟨h1, h2⟩) (by rw [e1, List.length_append, ha, hb]; decide)
    rw [e1, show sha (1 :: (a ++ b)) = D from hD] at this
    exact this)
  rw [hD] at hDl ⊢
  have HDL := Lib.hid hDl
  have HTB := hT.base
  have HS0 := Sep.start w
  clear hD hDl
  go_enter Tryd.func42, Tryd.ntmps42
  go_wp2_with (first | refine wl_bx HS0 rfl 33 _ rfl (bv a) rfl ?_)
  intro g1 w1 HS1
  go_wp2_with (first | refine wl_bx HS1 rfl 33 _ rfl (bv b) rfl ?_)
  intro g2 w2 HS2
  go_wp2_with (first | refine wl_al HS2 rfl 33 rfl (bv (List.replicate 32 0)) (by kernel_rfl) ?_)
  intro g3 w3 HS3
  clear HS0 HS1 HS2
  go_wp2
  refine Cop.region_ord (fun w' => True) 4 (.take 0 (.take 1 (.run 2 (.run 3 (.run 4 Cop.Ord.fin))))) (by kernel_rfl) (by kernel_rfl) (fun _ _ d _ _ h => by cases d <;> exact h) ?_
  intro wa hda
  have HSa := ((HS3.keep hda).rowRdL 1 rfl 32 hb (by decide)).rowRdL 2 rfl 32 ha (by decide)
  have HA : True := trivial
  clear HS3
  (repeat (first | (refine Cop.og_skip rfl rfl HA _ (by (simp only [Act.put, List.setIfInBounds_toArray, List.set_cons_succ, List.set_cons_zero]; rfl)) ?_) | (refine Cop.og_take rfl rfl HA ?_; apply Exists.intro; refine ⟨fun w9 h9 => ?_, _, by (simp only [Act.put, List.setIfInBounds_toArray, List.set_cons_succ, List.set_cons_zero]; rfl), ?_⟩; (go_simp; with_reducible rfl))))
  refine Cop.og_run rfl rfl ?_
  refine ow_bs HSa 153 65 2 1 _ rfl [.slice (some ⟨g1, 0, none⟩) 32 32, .slice (some ⟨g2, 0, none⟩) 32 32] (.slice none 0 0) Tryd.underlying153 (by kernel_rfl) (by decide) (by decide) (by kernel_rfl) rfl ?_
  intro g4 wb HSb
  refine ⟨fun _ => HA, ?_⟩
  (repeat (first | (refine Cop.og_skip rfl rfl HA _ (by (simp only [Act.put, List.setIfInBounds_toArray, List.set_cons_succ, List.set_cons_zero]; rfl)) ?_) | (refine Cop.og_take rfl rfl HA ?_; apply Exists.intro; refine ⟨fun w9 h9 => ?_, _, by (simp only [Act.put, List.setIfInBounds_toArray, List.set_cons_succ, List.set_cons_zero]; rfl), ?_⟩; (go_simp; with_reducible rfl))))
  refine Cop.og_run rfl rfl ?_
  refine ow_call 65 _ _ (fun w' => Below wb.heap.size wb w') (by go_simp) (CO.out _ _ _ wb (HTB _ HSb.hb) (HSb.own 0 rfl).rd (HSb.rd 3 rfl) (HSb.rd 2 rfl)) ?_
  intro wc bc
  have HSc := HSb.keep bc
  refine ⟨fun _ => HA, ?_⟩
  (repeat (first | (refine Cop.og_skip rfl rfl HA _ (by (simp only [Act.put, List.setIfInBounds_toArray, List.set_cons_succ, List.set_cons_zero]; rfl)) ?_) | (refine Cop.og_take rfl rfl HA ?_; apply Exists.intro; refine ⟨fun w9 h9 => ?_, _, by (simp only [Act.put, List.setIfInBounds_toArray, List.set_cons_succ, List.set_cons_zero]; rfl), ?_⟩; (go_simp; with_reducible rfl))))
  refine Cop.og_run rfl rfl ?_
  refine ow_st HSc 1 rfl 33 _ _ rfl rfl rfl (by rw [bv_size, HDL.out]; exact info_dg) (by rw [bv_size, bv_size, HDL.out]; rfl) (bv_one _) ?_
  intro wd HSd
  refine ⟨fun h => absurd rfl h, ?_⟩
  refine og_fin ?_
  go_wp2_with fail
  exact ret_row rfl rfl g3 rfl 33 (bv D) (0, 0) _ (HSd.row 1 rfl) Tryd.underlying33 rfl (by rw [bv_size, HDL.out]; exact info_dg) ⟨rfl, HSd.hb⟩
set_option maxHeartbeats 4000000 in
theorem empty_a (w : World) (hT : Tab w) :
    Calls Tryd.prog 40 #[] w fun e w' => e = .returned (.agg (bv (sha []))) ∧ Below w.heap.size w w' := by
  have CO := Lib.hid (sum_a [])
  have hDl := sha_length []
  obtain ⟨D, hD⟩ : ∃ x, sha [] = x := ⟨_, rfl⟩
  rw [hD] at hDl CO ⊢
  have HDL := Lib.hid hDl
  have HTB := hT.base
  have HS0 := Sep.start w
  clear hD hDl
  go_enter Tryd.func40, Tryd.ntmps40
  go_wp2_with (refine wl_al HS0 rfl 33 rfl (bv (List.replicate 32 0)) (by kernel_rfl) ?_)
  intro ga w1 HS1
  go_wp2_with fail
  refine (CO.out _ w1 (HTB _ HS1.hb) (Rd.nil w1 1) (by decide)).mono ?_
  rintro e w3 ⟨rfl, b3⟩
  have HS3 := HS1.keep b3
  clear HS0 HS1 b3
  go_wp2_with (first | refine wl_st HS3 0 rfl rfl 33 _ _ rfl rfl rfl (by rw [bv_size, HDL.out]; exact info_dg) (by rw [bv_size, bv_size, HDL.out]; rfl) (bv_one _) ?_)
  intro w6 HS6
  go_wp2_with fail
  exact ret_row rfl rfl ga rfl 33 (bv D) (0, 0) _ (HS6.row 0 rfl) Tryd.underlying33 rfl (by rw [bv_size, HDL.out]; exact info_dg) ⟨rfl, HS6.hb⟩
set_option maxHeartbeats 4000000 in
theorem empty_b (w : World) :
    Calls Tryd.prog 68 #[] w fun e w' => e = .returned (.agg (bv (sha []))) ∧ Below w.heap.size w w' := by
  have CO := Lib.hid (sum_b [])
  have hDl := sha_length []
  obtain ⟨D, hD⟩ : ∃ x, sha [] = x := ⟨_, rfl⟩
  rw [hD] at hDl CO ⊢
  have HDL := Lib.hid hDl
  have HS0 := Sep.start w
  clear hD hDl
  go_enter Tryd.func68, Tryd.ntmps68
  go_wp2_with (refine wl_al HS0 rfl 33 rfl (bv (List.replicate 32 0)) (by kernel_rfl) ?_)
  intro ga w1 HS1
  go_wp2_with fail
  refine (CO.out _ w1 (Rd.nil w1 1) (by decide)).mono ?_
  rintro e w3 ⟨rfl, b3⟩
  have HS3 := HS1.keep b3
  clear HS0 HS1 b3
  go_wp2_with (first | refine wl_st HS3 0 rfl rfl 33 _ _ rfl rfl rfl (by rw [bv_size, HDL.out]; exact info_dg) (by rw [bv_size, bv_size, HDL.out]; rfl) (bv_one _) ?_)
  intro w6 HS6
  go_wp2_with fail
  exact ret_row rfl rfl ga rfl 33 (bv D) (0, 0) _ (HS6.row 0 rfl) Tryd.underlying33 rfl (by rw [bv_size, HDL.out]; exact info_dg) ⟨rfl, HS6.hb⟩
set_option maxRecDepth 100000 in
set_option maxHeartbeats 4000000 in
theorem node_b (a b : List UInt8) (w : World) (ha : a.length = 32) (hb : b.length = 32) :
    Calls Tryd.prog 45 #[.agg (bv a), .agg (bv b)] w fun e w' => e = .returned (.agg (bv (nodeD a b))) ∧ Below w.heap.size w w' := by
  have hDl := nodeD_length a b
  obtain ⟨D, hD⟩ : ∃ x, nodeD a b = x := ⟨_, rfl⟩
  obtain ⟨L, hL⟩ : ∃ x, 1 :: a = x := ⟨_, rfl⟩
  obtain ⟨M, hM⟩ : ∃ x, L ++ b = x := ⟨_, rfl⟩
  have hLl : 1 + 32 = L.length := by rw [← hL, List.length_cons, ha]
  have hMl : L.length + 32 = M.length := by rw [← hM, List.length_append, hb]
  have CO := Lib.hid (sum_b M)
  rw [show sha M = D by rw [← hM, ← hL]; exact hD] at CO
  rw [hD] at hDl ⊢
  have HDL := Lib.hid hDl
  have HL := Lib.hid (show [1] ++ a = L from hL)
  have HLL := Lib.hid hLl
  have HM := Lib.hid hM
  have HML := Lib.hid hMl
  have hL9 : L.length ≤ 33 := by omega
  have hM9 : M.length ≤ 140737488355000 := by omega
  have HA : True := trivial
  have HS0 := Sep.start w
  clear hD hDl hL hM hLl hMl
  go_enter Tryd.func45, Tryd.ntmps45
  go_wp2_with (first | refine wl_bx HS0 rfl 33 _ rfl (bv a) rfl ?_)
  intro g1 w1 HS1
  go_wp2_with (first | refine wl_bx HS1 rfl 33 _ rfl (bv b) rfl ?_)
  intro g2 w2 HS2
  go_wp2_with (first | refine wl_al HS2 rfl 33 rfl (bv (List.replicate 32 0)) (by kernel_rfl) ?_)
  intro g3 w3 HS3
  clear HS0 HS1 HS2
  go_wp2
  refine Cop.region_ord (fun w' => True) 6 (.take 1 (.take 3 (.run 0 (.run 2 (.run 4 (.run 5 (.run 6 Cop.Ord.fin))))))) (by kernel_rfl) (by kernel_rfl) (fun _ _ d _ _ h => by cases d <;> exact h) ?_
  intro wa hda
  have HSa := ((HS3.keep hda).rowRd 1 rfl 32 hb (by decide)).rowRd 2 rfl 32 ha (by decide)
  clear HS3
  (repeat (first | (refine Cop.og_skip rfl rfl HA _ (by (simp only [Act.put, List.setIfInBounds_toArray, List.set_cons_succ, List.set_cons_zero]; rfl)) ?_) | (refine Cop.og_take rfl rfl HA ?_; apply Exists.intro; refine ⟨fun w9 h9 => ?_, _, by (simp only [Act.put, List.setIfInBounds_toArray, List.set_cons_succ, List.set_cons_zero]; rfl), ?_⟩; (go_simp; with_reducible rfl))))
  refine Cop.og_run rfl rfl ?_
  refine ow_bs HSa 65 5 1 1 _ rfl (bl [1]) (.int .u8 0) Tryd.underlying65 (by kernel_rfl) (by decide) (by decide) (by kernel_rfl) rfl ?_
  intro g4 wb HSb
  refine ⟨fun _ => HA, ?_⟩
  (repeat (first | (refine Cop.og_skip rfl rfl HA _ (by (simp only [Act.put, List.setIfInBounds_toArray, List.set_cons_succ, List.set_cons_zero]; rfl)) ?_) | (refine Cop.og_take rfl rfl HA ?_; apply Exists.intro; refine ⟨fun w9 h9 => ?_, _, by (simp only [Act.put, List.setIfInBounds_toArray, List.set_cons_succ, List.set_cons_zero]; rfl), ?_⟩; (go_simp; with_reducible rfl))))
  refine Cop.og_run rfl rfl ?_
  refine ow_apb (xs := [1]) HSb 0 rfl rfl (HSb.rd 3 rfl) rfl rfl L.length L HLL.out HL.out (by omega) ?_
  intro v5 wc HSc _
  obtain ⟨A5, c5, rfl, _⟩ := (HSc.own 0 rfl).sl
  refine ⟨fun _ => HA, ?_⟩
  (repeat (first | (refine Cop.og_skip rfl rfl HA _ (by (simp only [Act.put, List.setIfInBounds_toArray, List.set_cons_succ, List.set_cons_zero]; rfl)) ?_) | (refine Cop.og_take rfl rfl HA ?_; apply Exists.intro; refine ⟨fun w9 h9 => ?_, _, by (simp only [Act.put, List.setIfInBounds_toArray, List.set_cons_succ, List.set_cons_zero]; rfl), ?_⟩; (go_simp; with_reducible rfl))))
  refine Cop.og_run rfl rfl ?_
  refine ow_apb HSc 0 rfl rfl (HSc.rd 2 rfl) rfl rfl M.length M HML.out HM.out (by omega) ?_
  intro v6 wd HSd _
  obtain ⟨A6, c6, rfl, _⟩ := (HSd.own 0 rfl).sl
  refine ⟨fun _ => HA, ?_⟩
  (repeat (first | (refine Cop.og_skip rfl rfl HA _ (by (simp only [Act.put, List.setIfInBounds_toArray, List.set_cons_succ, List.set_cons_zero]; rfl)) ?_) | (refine Cop.og_take rfl rfl HA ?_; apply Exists.intro; refine ⟨fun w9 h9 => ?_, _, by (simp only [Act.put, List.setIfInBounds_toArray, List.set_cons_succ, List.set_cons_zero]; rfl), ?_⟩; (go_simp; with_reducible rfl))))
  refine Cop.og_run rfl rfl ?_
  refine ow_call 67 _ _ (fun w' => Below wd.heap.size wd w') (by go_simp) (CO.out _ wd (HSd.own 0 rfl).rd hM9) ?_
  intro we be
  have HSe := HSd.keep be
  refine ⟨fun _ => HA, ?_⟩
  (repeat (first | (refine Cop.og_skip rfl rfl HA _ (by (simp only [Act.put, List.setIfInBounds_toArray, List.set_cons_succ, List.set_cons_zero]; rfl)) ?_) | (refine Cop.og_take rfl rfl HA ?_; apply Exists.intro; refine ⟨fun w9 h9 => ?_, _, by (simp only [Act.put, List.setIfInBounds_toArray, List.set_cons_succ, List.set_cons_zero]; rfl), ?_⟩; (go_simp; with_reducible rfl))))
  refine Cop.og_run rfl rfl ?_
  refine ow_st HSe 1 rfl 33 _ _ rfl rfl rfl (by rw [bv_size, HDL.out]; exact info_dg) (by rw [bv_size, bv_size, HDL.out]; rfl) (bv_one _) ?_
  intro wf HSf
  refine ⟨fun h => absurd rfl h, ?_⟩
  refine og_fin ?_
  go_wp2_with fail
  exact ret_row rfl rfl g3 rfl 33 (bv D) (0, 0) _ (HSf.row 1 rfl) Tryd.underlying33 rfl (by rw [bv_size, HDL.out]; exact info_dg) ⟨rfl, HSf.hb⟩
end Go.Proofs.YtlhebogbbkjahaaDoor
