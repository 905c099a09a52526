/- What is known of two digests; a state's length. -/
import Derived.Test.YtepcjdifjjombaaDoorTe
import Derived.Lib.SlBytesConst
namespace Go.Proofs.YtepcjdifjjombaaDoor
open Go.RowKit Cop
set_option linter.unusedVariables false
set_option linter.unusedSimpArgs false
theorem sha_short (l : List UInt8) (h : (l ++ pad l.length).length = 64) : sha l = wb (compress hbegin (l ++ pad l.length)).l := by
  rw [sha, endOf, over_more _ _ (by omega), List.take_of_length_le (by omega), List.drop_of_length_le (by omega), over_small _ _ (by decide)]
theorem Sep_two {w0 w : World} {B : Nat} {p q : Pc} {R : List Pc} (h : Sep B w0 w (p :: q :: R)) : Sep B w0 w [p, q] := h.sub ((List.nil_sublist R).cons_cons q |>.cons_cons p)
/-- Bytes of a constant, which are read. -/
theorem Sep_litB {w0 w : World} {B : Nat} {R : List Pc} (HS : Sep B w0 w R) (t : TypeId) (fr : Nat × Nat) (l : List UInt8) (hm : l.length ≤ 9223372036854775807) : Sep B w0 (w.alloc (.cells (bv l) t fr)) (.rd (.slice (some ⟨w.heap.size, 0, none⟩) l.length l.length) l.length 1 (bl l) :: R) := by
  refine HS.fresh ((Below.refl _ _).alloc (Nat.le_refl _) _) ⟨by rw [bl_length, Nat.mul_one], _, l.length, rfl, Nat.le_refl _, hm, by simp, fun _ => ⟨w.heap.size, 0, rfl, fun j u hu => ?_⟩⟩ (fun k hk => ?_)
  · rw [Nat.zero_add, cell_of_row _ _ _ _ _ _ (heap_alloc_new w (.cells (bv l) t fr))]
    rw [← bv_toList] at hu
    simpa using hu
  · cases l with
    | nil => simp [Pc.blk, bl, rblk] at hk
    | cons x xs => simp [Pc.blk, bl, rblk] at hk; omega
def abc : List UInt8 := [97, 98, 99]
set_option maxRecDepth 100000 in
theorem sha_nil_known : (sha []).getD 0 0 = 0xe3 ∧ (sha []).getD 31 0 = 0x55 := by
  rw [sha_short [] (by decide)]
  decide +kernel
set_option maxRecDepth 100000 in
theorem sha_abc_known : (sha abc).getD 0 0 = 0xba ∧ (sha abc).getD 31 0 = 0xad := by
  rw [sha_short abc (by decide)]
  decide +kernel
theorem len_S {B : Nat} {w0 w : World} {R : List Pc} (HS : Sep B w0 w R) (i : Nat) {g : Nat} {h : H8} {n : Int} {v : Value} (hi : R[i]? = some (.row g (stv true h n v) 50)) :
    Calls Tryd.prog 25 #[.pointer (some ⟨g, 0, none⟩)] w fun e w' => e = .returned (.int .i64 n) ∧ w' = w := by
  have HN := Lib.hid (none_S HS i hi)
  have c9 := cell_n HS i hi
  clear HS hi
  go_enter Tryd.func25, Tryd.ntmps25
  go_wp2_with fail
  refine HN.out.mono ?_
  rintro e w2 ⟨rfl, rfl⟩
  go_wp2
  go_ret
  exact ⟨rfl, rfl⟩
set_option maxHeartbeats 4000000 in
theorem known_a (w : World) (hT : Tab w) : Calls Tryd.prog 26 #[] w fun e w' => e = .returned (.bool true) ∧ Below w.heap.size w w' := by
  have SA := Lib.hid sum_a
  have HTB := hT.base
  have HS0 := Sep.start w
  obtain ⟨D, hD⟩ : ∃ x, sha [] = x := ⟨_, rfl⟩
  obtain ⟨E, hE⟩ : ∃ x, sha abc = x := ⟨_, rfl⟩
  have HD := Lib.hid hD
  have HE := Lib.hid hE
  have HDL := Lib.hid (show D.length = 32 by rw [← hD]; exact sha_length _)
  have HEL := Lib.hid (show E.length = 32 by rw [← hE]; exact sha_length _)
  obtain ⟨h1, h2⟩ := sha_nil_known
  obtain ⟨h3, h4⟩ := sha_abc_known
  rw [hD] at h1 h2
  rw [hE] at h3 h4
  have H1 := Lib.hid h1
  have H2 := Lib.hid h2
  have H3 := Lib.hid h3
  have H4 := Lib.hid h4
  have kc := fun (w : World) (C : Array Value) (n c : Nat) => Lib.run_convert_bytes_const (P := Tryd.prog) w 30 5 C n c Tryd.underlying30 Tryd.underlying5
  clear hD hE h1 h2 h3 h4
  go_enter Tryd.func26, Tryd.ntmps26
  go_wp2_with fail
  refine (SA.out [] _ w hT (Rd.nil w 1) (by decide)).mono ?_
  rintro e w1 ⟨rfl, b1⟩
  rw [HD.out]
  have HS2 := Sep_litB (HS0.keep b1) 5 (3, 4) abc (by decide)
  go_wp2_with fail
  first | refine Cop.wl_world fun wz hwz => ?_ | refine Cop.calls_world fun wz hwz => ?_ | refine Cop.exit_world fun wz hwz => ?_ | refine Cop.code_world fun wz hwz => ?_
  have HSz : Sep w.heap.size w wz (.rd (.slice (some ⟨w1.heap.size, 0, none⟩) 3 3) abc.length 1 (bl abc) :: []) := by
    rw [← hwz]
    exact HS2
  clear hwz HS2 HS0
  refine (SA.out abc _ wz (HTB _ HSz.hb) (HSz.rd 0 rfl) (by decide)).mono ?_
  rintro e w3 ⟨rfl, b3⟩
  rw [HE.out]
  have HS3 := HSz.keep b3
  clear HSz
  go_wp2_with (first | refine wl_al HS3 rfl 32 rfl (bv (List.replicate 32 0)) (by kernel_rfl) ?_)
  intro g4 w4 HS4
  go_wp2_with (first | refine wl_al HS4 rfl 32 rfl (bv (List.replicate 32 0)) (by kernel_rfl) ?_)
  intro g5 w5 HS5
  go_wp2_with (first | refine wl_st HS5 1 rfl rfl 32 _ _ rfl rfl rfl (by rw [bv_size, HDL.out]; exact info_dg) (by rw [bv_size, bv_size, HDL.out]; rfl) (bv_one _) ?_)
  intro w6 HS6
  go_wp2_with (first | refine wl_st HS6 0 rfl rfl 32 _ _ rfl rfl rfl (by rw [bv_size, HEL.out]; exact info_dg) (by rw [bv_size, bv_size, HEL.out]; rfl) (bv_one _) ?_)
  intro w7 HS7
  have c1 := row_bv (HS7.row 1 rfl) 0 (by rw [HDL.out]; decide)
  have c2 := row_bv (HS7.row 1 rfl) 31 (by rw [HDL.out]; decide)
  have c3 := row_bv (HS7.row 0 rfl) 0 (by rw [HEL.out]; decide)
  have c4 := row_bv (HS7.row 0 rfl) 31 (by rw [HEL.out]; decide)
  rw [H1.out] at c1
  rw [H2.out] at c2
  rw [H3.out] at c3
  rw [H4.out] at c4
  clear HS3 HS4 HS5 HS6
  go_wp2
  go_ret
  exact ⟨rfl, HS7.hb⟩
end Go.Proofs.YtepcjdifjjombaaDoor
