/- mac.Child and the reference's. -/
import Derived.Test.YtkgdjddcnlkppaaDoorPu
import Derived.Test.YtkgdjddcnlkppaaDoorAs
import Derived.Test.YtkgdjddcnlkppaaDoorMa
import Derived.Test.YtkgdjddcnlkppaaDoorMr
import Derived.Test.YtkgdjddcnlkppaaDoorOt
namespace Go.Proofs.YtkgdjddcnlkppaaDoor
open Go.RowKit Cop
set_option linter.unusedVariables false
set_option linter.unusedSimpArgs false
def childD (s p : List UInt8) (i : Nat) : List UInt8 := hmac s (([UInt8.ofNat p.length] ++ p) ++ be 8 i)
theorem childD_length (s p : List UInt8) (i : Nat) : (childD s p i).length = 32 := hmac_length _ _
set_option maxRecDepth 100000 in
set_option maxHeartbeats 4000000 in
theorem child_ok (s p : List UInt8) (i : Nat) (w : World) (hT : Tab w) (hs : s.length = 32) (h1 : 1 ≤ p.length) (h2 : p.length ≤ 255) (hi : i ≤ 9223372036854775807) :
    Calls Tryd.prog 17 #[.agg (bv s), .string ⟨p.toArray⟩, .int .i64 i] w fun e w' => e = .returned (.tuple #[.agg (bv (childD s p i)), .int .i64 0]) ∧ Below w.heap.size w w' := by
  have hDl := childD_length s p i
  obtain ⟨D, hD⟩ : ∃ y, childD s p i = y := ⟨_, rfl⟩
  obtain ⟨y, hy⟩ : ∃ y, UInt8.ofNat p.length = y := ⟨_, rfl⟩
  obtain ⟨L, hL⟩ : ∃ z, [y] ++ p = z := ⟨_, rfl⟩
  obtain ⟨M, hM⟩ : ∃ z, L ++ be 8 i = z := ⟨_, rfl⟩
  have hLl : 1 + p.length = L.length := by rw [← hL, List.length_append]; rfl
  have hMl : M.length = L.length + 8 := by rw [← hM, List.length_append, be_length]
  have CM := Lib.hid (fun vk vm w => mac_a s M vk vm w)
  have CP := Lib.hid (fun v w hR => putU64_a L i v w hR (by omega) (by omega))
  rw [show hmac s M = D by rw [← hM, ← hL, ← hy]; exact hD] at CM
  rw [hM] at CP
  rw [hD] at hDl ⊢
  have HDL := Lib.hid hDl
  have HB := Lib.hid (show [Value.int .u8 (p.length : Int)] = bl [y] by
    rw [show (p.length : Int) = (y.toNat : Int) by rw [← hy, byte_of]; omega]; rfl)
  have HL := Lib.hid hL
  have HLL := Lib.hid hLl
  have hL9 : L.length ≤ 256 := by omega
  have hM9 : M.length ≤ 264 := by omega
  have HTB := hT.base
  have HS0 := Sep.start w
  have HW64 := Lib.hid (show IntKind.u64.wrap (i : Int) = (i : Int) by rw [IntKind.wrap_u64]; omega)
  have k1 : ¬ (p.length : Int) < 1 := by omega
  have k2 : ¬ 255 < (p.length : Int) := by omega
  have k3 : ¬ (i : Int) < 0 := by omega
  clear hD hDl hy hL hM hLl hMl
  go_enter Tryd.func17, Tryd.ntmps17
  go_wp2_with (first | refine wl_bx HS0 rfl 23 _ rfl (bv s) rfl ?_)
  intro g1 w1 HS1
  go_wp2_with (first | refine wl_al HS1 rfl 23 rfl (bv (List.replicate 32 0)) (by kernel_rfl) ?_)
  intro g2 w2 HS2
  clear HS0 HS1
  go_wp2_with (first | refine wl_bs HS2 rfl 33 5 1 1 _ rfl [Value.int .u8 (p.length : Int)] (.int .u8 0) Tryd.underlying33 (by kernel_rfl) (by decide) (by decide) (by kernel_rfl) rfl ?_)
  intro g3 w3 HS3
  rw [HB.out] at HS3
  go_wp2_with (first | refine wl_aps HS3 0 rfl rfl rfl (by decide) p rfl rfl L.length L HLL.out HL.out (by omega) ?_)
  intro v4 w4 HS4
  obtain ⟨A4, c4, rfl, _⟩ := (HS4.own 0 rfl).sl
  clear HS2 HS3
  go_wp2
  have HA : True := trivial
  refine Cop.region_ord (fun w' => True) 7 (.take 0 (.take 1 (.take 2 (.take 3 (.run 4 (.run 5 (.run 6 (.take 7 Cop.Ord.fin)))))))) (by kernel_rfl) (by kernel_rfl) (fun _ _ d _ _ h => by cases d <;> exact h) ?_
  intro wa hda
  have HSa := (HS4.keep hda).rowRd 2 rfl 32 hs (by decide)
  clear HS4
  (repeat (first | (refine Cop.og_skip rfl rfl HA _ (by (simp only [Act.put, List.setIfInBounds_toArray, List.set_cons_succ, List.set_cons_zero]; rfl)) ?_) | (refine Cop.og_take rfl rfl HA ?_; apply Exists.intro; refine ⟨fun w9 h9 => ?_, _, by (simp only [Act.put, List.setIfInBounds_toArray, List.set_cons_succ, List.set_cons_zero]; rfl), ?_⟩; (have q1 := HW64.out; go_simp; with_reducible rfl))))
  refine Cop.og_run rfl rfl ?_
  refine ow_call_ex 36 _ (fun x w' => Below wa.heap.size wa w' ∧ Ow w' wa.heap.size 5 1 x M.length (bl M)) (by go_simp) (CP.out _ wa (HSa.own 0 rfl).rd) ?_
  rintro v5 wb ⟨bb, ob⟩
  have HSb := HSa.made bb ob
  refine ⟨fun _ => HA, ?_⟩
  (repeat (first | (refine Cop.og_skip rfl rfl HA _ (by (simp only [Act.put, List.setIfInBounds_toArray, List.set_cons_succ, List.set_cons_zero]; rfl)) ?_) | (refine Cop.og_take rfl rfl HA ?_; apply Exists.intro; refine ⟨fun w9 h9 => ?_, _, by (simp only [Act.put, List.setIfInBounds_toArray, List.set_cons_succ, List.set_cons_zero]; rfl), ?_⟩; (go_simp; with_reducible rfl))))
  refine Cop.og_run rfl rfl ?_
  refine ow_call 35 _ _ (fun w' => Below wb.heap.size wb w') (by go_simp) (CM.out (.slice (some ⟨g1, 0, none⟩) 32 32) _ wb (HTB _ HSb.hb) (by rw [hs]; exact HSb.rd 3 rfl) (HSb.own 0 rfl).rd (by omega) (by omega)) ?_
  intro wc bc
  have HSc := HSb.keep bc
  refine ⟨fun _ => HA, ?_⟩
  (repeat (first | (refine Cop.og_skip rfl rfl HA _ (by (simp only [Act.put, List.setIfInBounds_toArray, List.set_cons_succ, List.set_cons_zero]; rfl)) ?_) | (refine Cop.og_take rfl rfl HA ?_; apply Exists.intro; refine ⟨fun w9 h9 => ?_, _, by (simp only [Act.put, List.setIfInBounds_toArray, List.set_cons_succ, List.set_cons_zero]; rfl), ?_⟩; (go_simp; with_reducible rfl))))
  refine Cop.og_run rfl rfl ?_
  refine ow_st HSc 2 rfl 23 _ _ rfl rfl rfl (by rw [bv_size, HDL.out]; exact info_dg) (by rw [bv_size, bv_size, HDL.out]; rfl) (bv_one _) ?_
  intro wd HSd
  refine ⟨fun _ => HA, ?_⟩
  (repeat (first | (refine Cop.og_skip rfl rfl HA _ (by (simp only [Act.put, List.setIfInBounds_toArray, List.set_cons_succ, List.set_cons_zero]; rfl)) ?_) | (refine Cop.og_take rfl rfl HA ?_; apply Exists.intro; refine ⟨fun w9 h9 => ?_, _, by (simp only [Act.put, List.setIfInBounds_toArray, List.set_cons_succ, List.set_cons_zero]; rfl), ?_⟩; (go_simp; with_reducible rfl))))
  refine og_fin ?_
  go_wp2_with fail
  exact ret_row_tmp rfl rfl g2 rfl 23 (bv D) (0, 0) _ (HSd.row 2 rfl) Tryd.underlying23 rfl (by rw [bv_size, HDL.out]; exact info_dg) (.int .i64 0) rfl ⟨rfl, HSd.hb⟩
set_option maxRecDepth 100000 in
set_option maxHeartbeats 4000000 in
theorem child_no (s p : List UInt8) (i : Int) (w : World) (hno : ¬ (1 ≤ p.length ∧ p.length ≤ 255 ∧ 0 ≤ i)) :
    Calls Tryd.prog 17 #[.agg (bv s), .string ⟨p.toArray⟩, .int .i64 i] w fun e w' => e = .returned (.tuple #[.agg (bv (List.replicate 32 0)), .int .i64 2]) ∧ Below w.heap.size w w' := by
  have HS0 := Sep.start w
  have HNO := Lib.hid hno
  clear hno
  go_enter Tryd.func17, Tryd.ntmps17
  go_wp2_with (first | refine wl_bx HS0 rfl 23 _ rfl (bv s) rfl ?_)
  intro g1 w1 HS1
  go_wp2_with (first | refine wl_al HS1 rfl 23 rfl (bv (List.replicate 32 0)) (by kernel_rfl) ?_)
  intro g2 w2 HS2
  clear HS0 HS1
  rcases (show (p.length : Int) < 1 ∨ (¬ (p.length : Int) < 1 ∧ 255 < (p.length : Int)) ∨ (¬ (p.length : Int) < 1 ∧ ¬ 255 < (p.length : Int) ∧ i < 0) from by have := HNO.out; omega) with h1 | ⟨h1, h2⟩ | ⟨h1, h2, h3⟩
  all_goals
    go_wp2_with (first | refine wl_st HS2 0 rfl rfl 23 _ _ rfl rfl (cs := bv (List.replicate 32 0)) rfl (by rw [bv_size]; exact info_dg) rfl (bv_one _) ?_)
    intro w6 HS6
    go_wp2_with fail
    exact ret_row_tmp rfl rfl g2 rfl 23 (bv (List.replicate 32 0)) (0, 0) _ (HS6.row 0 rfl) Tryd.underlying23 rfl (by rw [bv_size]; exact info_dg) (.int .i64 2) rfl ⟨rfl, HS6.hb⟩
set_option maxRecDepth 100000 in
set_option maxHeartbeats 4000000 in
theorem childB_no (s p : List UInt8) (i : Int) (w : World) (hno : ¬ (1 ≤ p.length ∧ p.length ≤ 255 ∧ 0 ≤ i)) :
    Calls Tryd.prog 18 #[.agg (bv s), .string ⟨p.toArray⟩, .int .i64 i] w fun e w' => e = .returned (.tuple #[.agg (bv (List.replicate 32 0)), .int .i64 2]) ∧ Below w.heap.size w w' := by
  have HS0 := Sep.start w
  have HNO := Lib.hid hno
  clear hno
  go_enter Tryd.func18, Tryd.ntmps18
  go_wp2_with (first | refine wl_bx HS0 rfl 23 _ rfl (bv s) rfl ?_)
  intro g1 w1 HS1
  go_wp2_with (first | refine wl_al HS1 rfl 23 rfl (bv (List.replicate 32 0)) (by kernel_rfl) ?_)
  intro g2 w2 HS2
  clear HS0 HS1
  rcases (show (p.length : Int) < 1 ∨ (¬ (p.length : Int) < 1 ∧ 255 < (p.length : Int)) ∨ (¬ (p.length : Int) < 1 ∧ ¬ 255 < (p.length : Int) ∧ i < 0) from by have := HNO.out; omega) with h1 | ⟨h1, h2⟩ | ⟨h1, h2, h3⟩
  all_goals
    go_wp2_with (first | refine wl_st HS2 0 rfl rfl 23 _ _ rfl rfl (cs := bv (List.replicate 32 0)) rfl (by rw [bv_size]; exact info_dg) rfl (bv_one _) ?_)
    intro w6 HS6
    go_wp2_with fail
    exact ret_row_tmp rfl rfl g2 rfl 23 (bv (List.replicate 32 0)) (0, 0) _ (HS6.row 0 rfl) Tryd.underlying23 rfl (by rw [bv_size]; exact info_dg) (.int .i64 2) rfl ⟨rfl, HS6.hb⟩
set_option maxRecDepth 100000 in
set_option maxHeartbeats 4000000 in
theorem childB_ok (s p : List UInt8) (i : Nat) (w : World) (hs : s.length = 32) (h1 : 1 ≤ p.length) (h2 : p.length ≤ 255) (hi : i ≤ 9223372036854775807) :
    Calls Tryd.prog 18 #[.agg (bv s), .string ⟨p.toArray⟩, .int .i64 i] w fun e w' => e = .returned (.tuple #[.agg (bv (childD s p i)), .int .i64 0]) ∧ Below w.heap.size w w' := by
  have hDl := childD_length s p i
  obtain ⟨D, hD⟩ : ∃ y, childD s p i = y := ⟨_, rfl⟩
  obtain ⟨y, hy⟩ : ∃ y, UInt8.ofNat p.length = y := ⟨_, rfl⟩
  obtain ⟨L, hL⟩ : ∃ z, [y] ++ p = z := ⟨_, rfl⟩
  obtain ⟨M, hM⟩ : ∃ z, L ++ be 8 i = z := ⟨_, rfl⟩
  have hLl : 1 + p.length = L.length := by rw [← hL, List.length_append]; rfl
  have hMl : L.length + 8 = M.length := by rw [← hM, List.length_append, be_length]
  have CM := Lib.hid (fun vk vm w => macref_b s M vk vm w)
  obtain ⟨Z, hZ⟩ : ∃ z, be 8 i = z := ⟨_, rfl⟩
  have CN := Lib.hid (fun w => number_b i 8 w (by omega) (by decide))
  rw [hZ] at CN hM
  have HZL := Lib.hid (show (8 : Nat) = Z.length by rw [← hZ, be_length])
  rw [show hmac s M = D by rw [← hM, ← hL, ← hy, ← hZ]; exact hD] at CM
  rw [hD] at hDl ⊢
  have HDL := Lib.hid hDl
  have HB := Lib.hid (show [Value.int .u8 (p.length : Int)] = bl [y] by
    rw [show (p.length : Int) = (y.toNat : Int) by rw [← hy, byte_of]; omega]; rfl)
  have HL := Lib.hid hL
  have HLL := Lib.hid hLl
  have HM := Lib.hid hM
  have HML := Lib.hid hMl
  have hL9 : L.length ≤ 256 := by omega
  have hM9 : M.length ≤ 264 := by omega
  have HS0 := Sep.start w
  have HW64 := Lib.hid (show IntKind.u64.wrap (i : Int) = (i : Int) by rw [IntKind.wrap_u64]; omega)
  have k1 : ¬ (p.length : Int) < 1 := by omega
  have k2 : ¬ 255 < (p.length : Int) := by omega
  have k3 : ¬ (i : Int) < 0 := by omega
  clear hD hDl hy hL hM hLl hMl hZ
  go_enter Tryd.func18, Tryd.ntmps18
  go_wp2_with (first | refine wl_bx HS0 rfl 23 _ rfl (bv s) rfl ?_)
  intro g1 w1 HS1
  go_wp2_with (first | refine wl_al HS1 rfl 23 rfl (bv (List.replicate 32 0)) (by kernel_rfl) ?_)
  intro g2 w2 HS2
  clear HS0 HS1
  go_wp2_with (first | refine wl_bs HS2 rfl 33 5 1 1 _ rfl [Value.int .u8 (p.length : Int)] (.int .u8 0) Tryd.underlying33 (by kernel_rfl) (by decide) (by decide) (by kernel_rfl) rfl ?_)
  intro g3 w3 HS3
  rw [HB.out] at HS3
  go_wp2_with (first | refine wl_aps HS3 0 rfl rfl rfl (by decide) p rfl rfl L.length L HLL.out HL.out (by omega) ?_)
  intro v4 w4 HS4
  obtain ⟨A4, c4, rfl, _⟩ := (HS4.own 0 rfl).sl
  clear HS2 HS3
  go_wp2
  have HA : True := trivial
  refine Cop.region_ord (fun w' => True) 8 (.take 0 (.take 1 (.take 2 (.take 3 (.run 4 (.run 5 (.run 6 (.run 7 (.take 8 Cop.Ord.fin))))))))) (by kernel_rfl) (by kernel_rfl) (fun _ _ d _ _ h => by cases d <;> exact h) ?_
  intro wa hda
  have HSa := (HS4.keep hda).rowRd 2 rfl 32 hs (by decide)
  clear HS4
  (repeat (first | (refine Cop.og_skip rfl rfl HA _ (by (simp only [Act.put, List.setIfInBounds_toArray, List.set_cons_succ, List.set_cons_zero]; rfl)) ?_) | (refine Cop.og_take rfl rfl HA ?_; apply Exists.intro; refine ⟨fun w9 h9 => ?_, _, by (simp only [Act.put, List.setIfInBounds_toArray, List.set_cons_succ, List.set_cons_zero]; rfl), ?_⟩; (have q1 := HW64.out; go_simp; with_reducible rfl))))
  refine Cop.og_run rfl rfl ?_
  refine ow_call_ex 38 _ (fun x w' => Below wa.heap.size wa w' ∧ w'.ownsRow wa.heap.size 5 1 x 8 (bl Z)) (by go_simp) (CN.out wa) ?_
  rintro v5 wb ⟨bb, ob⟩
  have HSb := HSa.madeRow bb ob
  refine ⟨fun _ => HA, ?_⟩
  (repeat (first | (refine Cop.og_skip rfl rfl HA _ (by (simp only [Act.put, List.setIfInBounds_toArray, List.set_cons_succ, List.set_cons_zero]; rfl)) ?_) | (refine Cop.og_take rfl rfl HA ?_; apply Exists.intro; refine ⟨fun w9 h9 => ?_, _, by (simp only [Act.put, List.setIfInBounds_toArray, List.set_cons_succ, List.set_cons_zero]; rfl), ?_⟩; (go_simp; with_reducible rfl))))
  refine Cop.og_run rfl rfl ?_
  refine ow_apb HSb 1 rfl rfl (HSb.own 0 rfl).rd rfl rfl M.length M HML.out HM.out (by omega) ?_
  intro v6 wc HSc _
  obtain ⟨A6, c6, rfl, _⟩ := (HSc.own 1 rfl).sl
  refine ⟨fun _ => HA, ?_⟩
  (repeat (first | (refine Cop.og_skip rfl rfl HA _ (by (simp only [Act.put, List.setIfInBounds_toArray, List.set_cons_succ, List.set_cons_zero]; rfl)) ?_) | (refine Cop.og_take rfl rfl HA ?_; apply Exists.intro; refine ⟨fun w9 h9 => ?_, _, by (simp only [Act.put, List.setIfInBounds_toArray, List.set_cons_succ, List.set_cons_zero]; rfl), ?_⟩; (go_simp; with_reducible rfl))))
  refine Cop.og_run rfl rfl ?_
  refine ow_call 37 _ _ (fun w' => Below wc.heap.size wc w') (by go_simp) (CM.out (.slice (some ⟨g1, 0, none⟩) 32 32) _ wc (by rw [hs]; exact HSc.rd 3 rfl) (HSc.own 1 rfl).rd (by omega) (by omega)) ?_
  intro wd bd
  have HSd := HSc.keep bd
  refine ⟨fun _ => HA, ?_⟩
  (repeat (first | (refine Cop.og_skip rfl rfl HA _ (by (simp only [Act.put, List.setIfInBounds_toArray, List.set_cons_succ, List.set_cons_zero]; rfl)) ?_) | (refine Cop.og_take rfl rfl HA ?_; apply Exists.intro; refine ⟨fun w9 h9 => ?_, _, by (simp only [Act.put, List.setIfInBounds_toArray, List.set_cons_succ, List.set_cons_zero]; rfl), ?_⟩; (go_simp; with_reducible rfl))))
  refine Cop.og_run rfl rfl ?_
  refine ow_st HSd 2 rfl 23 _ _ rfl rfl rfl (by rw [bv_size, HDL.out]; exact info_dg) (by rw [bv_size, bv_size, HDL.out]; rfl) (bv_one _) ?_
  intro we HSe
  refine ⟨fun _ => HA, ?_⟩
  (repeat (first | (refine Cop.og_skip rfl rfl HA _ (by (simp only [Act.put, List.setIfInBounds_toArray, List.set_cons_succ, List.set_cons_zero]; rfl)) ?_) | (refine Cop.og_take rfl rfl HA ?_; apply Exists.intro; refine ⟨fun w9 h9 => ?_, _, by (simp only [Act.put, List.setIfInBounds_toArray, List.set_cons_succ, List.set_cons_zero]; rfl), ?_⟩; (go_simp; with_reducible rfl))))
  refine og_fin ?_
  go_wp2_with fail
  exact ret_row_tmp rfl rfl g2 rfl 23 (bv D) (0, 0) _ (HSe.row 2 rfl) Tryd.underlying23 rfl (by rw [bv_size, HDL.out]; exact info_dg) (.int .i64 0) rfl ⟨rfl, HSe.hb⟩
end Go.Proofs.YtkgdjddcnlkppaaDoor
