/- Proved here: any bytes have the document's digest (hash.Sum against the reference's Sum, which both are SHA-256); the bytes stay as they were. The table of constants is tied to the program's text. No condition. -/
import Derived.Test.YtepcjdifjjombaaDoorTc
import Derived.Test.YtepcjdifjjombaaDoorFHashSums
namespace Go.Proofs.YtepcjdifjjombaaDoor
open Go.RowKit Cop
set_option linter.unusedVariables false
set_option linter.unusedSimpArgs false
set_option maxRecDepth 100000 in
set_option maxHeartbeats 4000000 in
theorem hashSums_walk (l : List UInt8) (v : Value) (w : World) (hT : Tab w) (hR : Rd w v l.length 1 (bl l)) (hl : l.length ≤ 140737488351232) :
    Calls Tryd.prog 4 #[v] w fun e w' => e = .returned (.bool true) ∧ Below w.heap.size w w' := by
  have SA := Lib.hid (sum_a l)
  have SB := Lib.hid (sum_b l)
  have HT := hT.base
  have HS0 := ((Sep.start w).arg0 hR).built #[] 5 0 1 rfl (by decide)
  obtain ⟨A, c, rfl, hc, hcm⟩ := hR.shape
  have heq := fun w' : World => run_equal_bv (P := Tryd.prog) w' (d := 9998) Tryd.underlying32 Tryd.underlying5 (by kernel_rfl) (sha l) (sha l) (sha_length l) (sha_length l)
  generalize bv (sha l) = Z at *
  obtain ⟨L, hL⟩ : ∃ x, l ++ [90] = x := ⟨_, rfl⟩
  have hLl : L.length = l.length + 1 := by rw [← hL]; simp
  have hlL : l.length ≤ L.length := by omega
  have hl2 : L.length ≤ 140737488355328 := by omega
  have HL := Lib.hid hL
  have HLl := Lib.hid hLl
  clear hR hL hLl
  go_enter Tryd.func4, Tryd.ntmps4
  go_wp2_with (refine wl_apb (xs := []) HS0 0 rfl rfl rfl (HS0.rd 1 rfl) rfl rfl l.length l (by simp) rfl (by omega) ?_)
  intro v1 w1 HS1 _
  have HS2 := HS1.skip (.cells #[.int .u8 90] 5)
  have HR2 : Rd (w1.alloc (.cells #[.int .u8 90] 5)) _ _ 1 (bl [90]) := rd_row (n := 1) (size := 1) (heap_alloc_new w1 (.cells #[.int .u8 90] 5)) rfl (by decide)
  go_wp2_with (refine wl_apb HS2 0 rfl rfl rfl HR2 rfl rfl L.length L HLl.out.symm HL.out hl2 ?_)
  intro v3 w3 HS3 _
  obtain ⟨A3, c3, rfl, hc3⟩ := (HS3.own 0 rfl).sl
  obtain ⟨A4, c4, hc4, hm4, HR4, _, hs4⟩ := rd_to (HS3.own 0 rfl).rd Tryd.underlying30 info_u8' l.length hlL
  rw [← HL.out, List.take_left' rfl] at HR4
  clear HS0 HS1 HS2 HR2
  go_wp2_with fail
  refine (SA.out _ _ (HT _ HS3.hb) HR4 (by omega)).mono ?_
  rintro e w5 ⟨rfl, b5⟩
  have HS5 := HS3.keep b5
  go_wp2_with fail
  refine (SB.out _ _ (HS5.rd 1 rfl) (by omega)).mono ?_
  rintro e w6 ⟨rfl, b6⟩
  have HS6 := HS5.keep b6
  have s1 := Rd.string (P := Tryd.prog) (HS6.own 0 rfl).rd Tryd.underlying30 Tryd.underlying5 Tryd.underlying9
  have s2 := Rd.string (P := Tryd.prog) (HS6.rd 1 rfl) Tryd.underlying30 Tryd.underlying5 Tryd.underlying9
  unfold sv at s1 s2
  clear HS3 HS5 HR4 hs4 SA SB
  go_wp2
  go_ret
  exact ⟨ret_bool (bytes_eq L l 90 HL.out), HS6.hb⟩
theorem hashSums_holds : Rows.HashSumsCardSaid := hashSums.card_of_walk fun H enc W base v0 d0 p0 h0 k0 hsz hL => by
  obtain ⟨l, hR, hl⟩ := open_bslice Tryd.underlying30 Tryd.underlying5 (by kernel_rfl) (by kernel_rfl) h0 k0 hsz 0 rfl rfl
  exact hashSums_walk l v0 W (table_of hL) hR hl
#print axioms hashSums_holds
end Go.Proofs.YtepcjdifjjombaaDoor
