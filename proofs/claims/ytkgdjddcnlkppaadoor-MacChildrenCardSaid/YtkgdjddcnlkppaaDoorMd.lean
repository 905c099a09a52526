/- Proved here: any seed's child for any purpose is the document's, or refused. The table of constants is tied to the program's text. No condition. -/
import Derived.Test.YtkgdjddcnlkppaaDoorMc
import Derived.Test.YtkgdjddcnlkppaaDoorFMacChildren
import Derived.ChangeMaps5
namespace Go.Proofs.YtkgdjddcnlkppaaDoor
open Go.RowKit Cop
set_option linter.unusedVariables false
set_option linter.unusedSimpArgs false
theorem names_03 (w : World) : Calls Tryd.prog 19 #[] w fun e w' => e = .returned (.bool true) ∧ w = w' := by
  go_enter Tryd.func19, Tryd.ntmps19
  go_wp2
  go_ret
  exact ⟨rfl, rfl⟩
theorem child_ab (s p : List UInt8) (i : Int) (hs : s.length = 32) (hi : i ≤ 9223372036854775807) : ∃ (D : List UInt8) (E : Int), D.length = 32 ∧
    (∀ w, Tab w → Calls Tryd.prog 17 #[.agg (bv s), .string ⟨p.toArray⟩, .int .i64 i] w fun e w' => e = .returned (.tuple #[.agg (bv D), .int .i64 E]) ∧ Below w.heap.size w w') ∧
    ∀ w, Calls Tryd.prog 18 #[.agg (bv s), .string ⟨p.toArray⟩, .int .i64 i] w fun e w' => e = .returned (.tuple #[.agg (bv D), .int .i64 E]) ∧ Below w.heap.size w w' := by
  by_cases h : 1 ≤ p.length ∧ p.length ≤ 255 ∧ 0 ≤ i
  · obtain ⟨n, rfl⟩ : ∃ n : Nat, i = n := ⟨i.toNat, by omega⟩
    exact ⟨childD s p n, 0, childD_length s p n, fun w hT => child_ok s p n w hT hs h.1 h.2.1 (by omega), fun w => childB_ok s p n w hs h.1 h.2.1 (by omega)⟩
  · exact ⟨List.replicate 32 0, 2, rfl, fun w _ => child_no s p i w h, fun w => childB_no s p i w h⟩
set_option maxRecDepth 100000 in
set_option maxHeartbeats 4000000 in
theorem macChildren_walk (s p : List UInt8) (i : Int) (w : World) (hT : Tab w) (hs : s.length = 32) (hi : i ≤ 9223372036854775807) :
    Calls Tryd.prog 6 #[.agg (bv s), .string ⟨p.toArray⟩, .int .i64 i] w fun e w' => e = .returned (.bool true) ∧ Below w.heap.size w w' := by
  obtain ⟨D, E, hDl, ca, cb⟩ := child_ab s p i hs hi
  have CA := Lib.hid ca
  have CB := Lib.hid cb
  have HDL := Lib.hid hDl
  have HTB := hT.base
  have HS0 := Sep.start w
  have heq := fun w' : World => run_equal_bv (P := Tryd.prog) w' (d := 9998) Tryd.underlying23 Tryd.underlying5 (by kernel_rfl) D D hDl hDl
  clear ca cb hDl
  go_enter Tryd.func6, Tryd.ntmps6
  go_wp2_with (first | refine wl_bx HS0 rfl 23 _ rfl (bv s) rfl ?_)
  intro g1 w1 HS1
  go_wp2_with (first | refine wl_ld HS1 0 rfl rfl 23 _ rfl rfl Tryd.underlying23 rfl (by rw [bv_size, hs]; exact info_dg) ?_)
  refine (CA.out w1 (HTB _ HS1.hb)).mono ?_
  rintro e w2 ⟨rfl, b2⟩
  have HS2 := HS1.keep b2
  clear HS0 HS1
  go_wp2_with (first | refine wl_al HS2 rfl 23 rfl (bv (List.replicate 32 0)) (by kernel_rfl) ?_)
  intro g3 w3 HS3
  go_wp2_with (first | refine wl_st HS3 0 rfl rfl 23 _ _ rfl rfl rfl (by rw [bv_size, HDL.out]; exact info_dg) (by rw [bv_size, bv_size, HDL.out]; rfl) (bv_one _) ?_)
  intro w4 HS4
  clear HS2 HS3
  go_wp2_with (first | refine wl_ld HS4 1 rfl rfl 23 _ rfl rfl Tryd.underlying23 rfl (by rw [bv_size, hs]; exact info_dg) ?_)
  refine (CB.out w4).mono ?_
  rintro e w5 ⟨rfl, b5⟩
  have HS5 := HS4.keep b5
  clear HS4
  go_wp2_with (first | refine wl_al HS5 rfl 23 rfl (bv (List.replicate 32 0)) (by kernel_rfl) ?_)
  intro g6 w6 HS6
  go_wp2_with (first | refine wl_st HS6 0 rfl rfl 23 _ _ rfl rfl rfl (by rw [bv_size, HDL.out]; exact info_dg) (by rw [bv_size, bv_size, HDL.out]; rfl) (bv_one _) ?_)
  intro w7 HS7
  clear HS5 HS6
  go_wp2_with (first | refine wl_ld HS7 1 rfl rfl 23 _ rfl rfl Tryd.underlying23 rfl (by rw [bv_size, HDL.out]; exact info_dg) ?_ | refine wl_ld HS7 0 rfl rfl 23 _ rfl rfl Tryd.underlying23 rfl (by rw [bv_size, HDL.out]; exact info_dg) ?_)
  refine (names_03 w7).mono ?_
  rintro e w8 ⟨rfl, rfl⟩
  go_wp2
  go_ret
  exact ⟨rfl, HS7.hb⟩
set_option maxRecDepth 100000 in
theorem macChildren_holds : Rows.MacChildrenCardSaid := macChildren.card_of_walk fun H enc W base v0 v1 v2 d0 d1 d2 p0 p1 p2 h0 k0 h1 k1 h2 k2 hsz hL => by
  obtain ⟨s, hs, rfl⟩ := open_bytes Tryd.underlying23 Tryd.underlying5 (by kernel_rfl) (by kernel_rfl) h0 k0
  obtain ⟨p, rfl, _⟩ := Go.ChangeMaps.open_string Tryd.underlying9 k1 h1
  obtain ⟨i, rfl, _, _, hw⟩ := Go.ChangeShapes.open_int Tryd.underlying3 k2 h2
  have hb := bounds_i64 hw
  obtain ⟨⟨p⟩⟩ := p
  exact macChildren_walk s p i W (table_of hL) hs (by omega)
#print axioms macChildren_holds
end Go.Proofs.YtkgdjddcnlkppaaDoor
