import Derived.Test.YtepcjdifjjombaaDoorTc
namespace Go.Proofs.YtepcjdifjjombaaDoor
open Go.RowKit Cop
set_option linter.unusedVariables false
set_option linter.unusedSimpArgs false
/-- A state that took a message: its row, and what is behind the whole blocks. -/
def msRow (g : Nat) (v : Value) (m : List UInt8) : Pc := .row g (stv true (over hbegin m) (m.length : Nat) v) 50
def msOwn (v : Value) (m : List UInt8) : Pc := .own v 5 1 (tl m).length (bl (tl m))
section
variable {B : Nat} {w0 w : World} {R : List Pc}
theorem new_m (HS : Sep B w0 w R) : Calls Tryd.prog 22 #[] w fun e w' => ∃ g v, e = .returned (.pointer (some ⟨g, 0, none⟩)) ∧ Sep B w0 w' (msRow g v [] :: msOwn v [] :: R) := by
  refine (new_S HS).mono fun e w' ⟨g, he, h⟩ => ⟨g, .slice none 0 0, he, ?_⟩
  have e1 : over hbegin [] = hbegin := over_small _ _ (by decide)
  unfold msRow msOwn
  rw [e1]
  exact h
theorem write_m (g : Nat) (v vb : Value) (m l : List UInt8) (hTB : TabB B w0) (hl : m.length + l.length ≤ 1000000000000000000) (HS : Sep B w0 w (msRow g v m :: msOwn v m :: .rd vb l.length 1 (bl l) :: R)) :
    Calls Tryd.prog 23 #[.pointer (some ⟨g, 0, none⟩), vb] w fun e w' => e = .returned (.int .i64 0) ∧ ∃ v', Sep B w0 w' (msRow g v' (m ++ l) :: msOwn v' (m ++ l) :: .rd vb l.length 1 (bl l) :: R) := by
  refine (write_a B w0 g m.length v vb (over hbegin m) (tl m) l R w hTB (tl_length m) (by omega) (by omega) HS).mono fun e w' ⟨he, v', h⟩ => ⟨he, v', ?_⟩
  obtain ⟨e1, e2⟩ := over_step m hbegin l
  rw [e1, e2] at h
  unfold msRow msOwn
  rw [List.length_append]
  exact h
theorem clone_m (g : Nat) (v : Value) (m : List UInt8) (hl : m.length ≤ 1000000000000000000) (i j : Nat) (hi : R[i]? = some (msRow g v m)) (hj : R[j]? = some (msOwn v m)) (HS : Sep B w0 w R) :
    Calls Tryd.prog 29 #[.pointer (some ⟨g, 0, none⟩)] w fun e w' => ∃ g' v', e = .returned (.pointer (some ⟨g', 0, none⟩)) ∧ Sep B w0 w' (msRow g' v' m :: msOwn v' m :: R) :=
  clone_a B w0 g m.length v _ (tl m) R w (tl_length m) i j hi hj HS
theorem sum_m (g : Nat) (v : Value) (m : List UInt8) (hTB : TabB B w0) (hl : m.length ≤ 1000000000000000000) (i j : Nat) (hi : R[i]? = some (msRow g v m)) (hj : R[j]? = some (msOwn v m)) (HS : Sep B w0 w R) :
    Calls Tryd.prog 24 #[.pointer (some ⟨g, 0, none⟩)] w fun e w' => e = .returned (.agg (bv (sha m))) ∧ Sep B w0 w' R := by
  have := sumS_a B w0 g m.length v (over hbegin m) (tl m) R w hTB (tl_length m) (by omega) i j hi hj HS
  rw [endOf_step] at this
  exact this
end
/-- A key, filled up with noughts to a block, each byte turned. -/
def kpad (k : List UInt8) (by' : UInt8) : List UInt8 := (k ++ (List.replicate 64 0).drop k.length).map (· ^^^ by')
theorem kpad_length (k : List UInt8) (b : UInt8) (h : k.length ≤ 64) : (kpad k b).length = 64 := by simp [kpad]; omega
/-- Some bytes turned, the others not. -/
def mixx (b : UInt8) (xs : List UInt8) (i : Nat) : List UInt8 := (xs.take i).map (· ^^^ b) ++ xs.drop i
theorem mixx_length (b : UInt8) (xs : List UInt8) (i : Nat) (h : i ≤ xs.length) : (mixx b xs i).length = xs.length := by simp [mixx]; omega
theorem mixx_at (b : UInt8) (xs : List UInt8) (i : Nat) (h : i < xs.length) : (mixx b xs i).getD i 0 = xs.getD i 0 := by
  simp [mixx, List.getD, List.getElem?_append_right, List.length_take, Nat.min_eq_left (Nat.le_of_lt h)]
theorem mixx_set (b : UInt8) (xs : List UInt8) (i : Nat) (h : i < xs.length) : (mixx b xs i).set i (xs.getD i 0 ^^^ b) = mixx b xs (i + 1) := by
  unfold mixx
  rw [List.set_append_right _ _ (by simp; omega), List.length_map, List.length_take, Nat.min_eq_left (by omega), Nat.sub_self, List.drop_eq_getElem_cons h, List.set_cons_zero, List.take_succ_eq_append_getElem h, List.map_append, List.append_assoc]
  simp only [List.map_cons, List.map_nil, List.cons_append, List.nil_append, List.getD, List.getElem?_eq_getElem h, Option.getD_some]
set_option maxHeartbeats 4000000 in
theorem begun_m {B : Nat} {w0 : World} {R : List Pc} (vk : Value) (k : List UInt8) (b : UInt8) (w : World) (hTB : TabB B w0) (hk : k.length ≤ 64) (i : Nat) (hi : R[i]? = some (.rd vk k.length 1 (bl k))) (HS : Sep B w0 w R) :
    Calls Tryd.prog 56 #[vk, .int .u8 b.toNat] w fun e w' => ∃ g v, e = .returned (.pointer (some ⟨g, 0, none⟩)) ∧ Sep B w0 w' (msRow g v (kpad k b) :: msOwn v (kpad k b) :: R) := by
  obtain ⟨A, c, rfl, hc, hcm⟩ := (HS.rd i hi).shape
  have hi' := Lib.hid hi
  obtain ⟨xs, hxs⟩ : ∃ x, k ++ (List.replicate 64 0).drop k.length = x := ⟨_, rfl⟩
  have hkp : kpad k b = mixx b xs 64 := by
    have : xs.length = 64 := by rw [← hxs]; simp; omega
    rw [kpad, hxs, mixx, List.take_of_length_le (by omega), List.drop_of_length_le (by omega), List.append_nil]
  have hxl : xs.length = 64 := by rw [← hxs]; simp; omega
  obtain ⟨M, hM⟩ : ∃ x, mixx b xs 64 = x := ⟨_, rfl⟩
  rw [hkp, hM]
  have HMX := Lib.hid hM
  have HX := Lib.hid hxs
  have HXL := Lib.hid hxl
  have hb8 := u8_lt b
  clear hi hxs hkp hxl hM
  go_enter Tryd.func56, Tryd.ntmps56
  go_wp2_with (refine wl_mkb HS rfl rfl rfl rfl 64 rfl rfl (by decide) ?_)
  intro g1 w1 HS1
  go_wp2_with (refine wl_cpb (z := List.replicate 64 0) HS1 0 rfl rfl rfl (HS1.rd (i + 1) hi'.out) rfl rfl rfl hk xs HX.out ?_)
  intro w2 HS2
  clear HS1
  go_wp2
  go_loopw [14] (fun s14 wr => ∃ j : Nat, j ≤ 64 ∧ s14 = .int .i64 j ∧ Sep B w0 wr (.row g1 (bv (mixx b xs j)) 5 :: R)) (fun s14 _ => 64 - (intOf s14).toNat)
  case atStart => exact ⟨0, by omega, rfl, by rw [show mixx b xs 0 = xs by simp [mixx]]; exact HS2⟩
  case round =>
    clear HS2
    obtain ⟨j, hj, rfl, HSj⟩ := hrel
    by_cases hlt : j < 64
    · have hx := mixx_at b xs j (by rw [HXL.out]; exact hlt)
      have HX2 := Lib.hid (mixx_set b xs j (by rw [HXL.out]; exact hlt))
      have hjj := row_bv (HSj.row 0 rfl) j (by rw [mixx_length b xs j (by rw [HXL.out]; omega), HXL.out]; exact hlt)
      rw [hx] at hjj
      have hsz : j < (bv (mixx b xs j)).size := by rw [bv_size, mixx_length b xs j (by rw [HXL.out]; omega), HXL.out]; exact hlt
      have HSZ := Lib.hid hsz
      have hx8 := u8_lt (xs.getD j 0)
      generalize xs.getD j 0 = x at *
      have hbx := bxor8 x b
      have hj2 : (j : Int) < 64 := by omega
      clear hx hsz
      go_wp2_with (refine wl_stc HSj 0 rfl rfl 5 _ _ rfl info_u8' j HSZ.out rfl rfl rfl rfl ?_)
      intro w3 HS3
      rw [show ((x.toNat ^^^ b.toNat : Nat) : Int) = ((x ^^^ b).toNat : Int) from by rw [UInt8.toNat_xor], bv_set, HX2.out] at HS3
      go_wp2
      go_roundw
      case rel => exact ⟨j + 1, by omega, by go_num, HS3⟩
      case measure => simp [intOf]; omega
    · have hj64 : j = 64 := by omega
      subst hj64
      have HM := Lib.hid (show M.length = 64 by rw [← HMX.out, mixx_length b xs 64 (by rw [HXL.out]; omega), HXL.out])
      rw [HMX.out] at HSj
      clear hlt hj
      go_wp2_with fail
      refine (new_m HSj).mono ?_
      rintro e w4 ⟨g4, v4, rfl, HS4⟩
      have HS5 : Sep B w0 w4 (msRow g4 v4 [] :: msOwn v4 [] :: .rd (.slice (some ⟨g1, 0, none⟩) 64 64) M.length 1 (bl M) :: R) := by rw [HM.out]; exact HS4.rowRd 2 rfl 64 HM.out (by decide)
      go_wp2_with fail
      refine (write_m g4 v4 _ [] M hTB (by rw [HM.out]; decide) HS5).mono ?_
      rintro e w6 ⟨rfl, v6, HS6⟩
      rw [List.nil_append] at HS6
      clear HS4 HS5 HSj
      go_wp2
      go_ret
      exact ⟨g4, v6, rfl, HS6.sub (by repeat (first | exact List.nil_sublist _ | exact List.Sublist.refl _ | apply List.Sublist.cons_cons | apply List.Sublist.cons))⟩
/-- The pieces of a keyed digest: its two pointers, the inner state behind m, the outer one behind o. -/
def kyRow (gk g1 g2 : Nat) : Pc := .row gk #[.pointer (some ⟨g1, 0, none⟩), .pointer (some ⟨g2, 0, none⟩)] 47
/-- The key that counts. -/
def key64 (k : List UInt8) : List UInt8 := if k.length ≤ 64 then k else sha k
theorem key64_length (k : List UInt8) : (key64 k).length ≤ 64 := by
  unfold key64
  split
  · assumption
  · rw [sha_length]; decide
set_option maxHeartbeats 4000000 in
theorem macNew_m {B : Nat} {w0 : World} {R : List Pc} (vk : Value) (k : List UInt8) (w : World) (hTB : TabB B w0) (hk : k.length ≤ 140737488355000) (i : Nat) (hi : R[i]? = some (.rd vk k.length 1 (bl k))) (HS : Sep B w0 w R) :
    Calls Tryd.prog 39 #[vk] w fun e w' => ∃ gk g1 g2 v1 v2, e = .returned (.pointer (some ⟨gk, 0, none⟩)) ∧
      Sep B w0 w' (kyRow gk g1 g2 :: msRow g1 v1 (kpad (key64 k) 0x36) :: msOwn v1 (kpad (key64 k) 0x36) :: msRow g2 v2 (kpad (key64 k) 0x5c) :: msOwn v2 (kpad (key64 k) 0x5c) :: R) := by
  obtain ⟨A, c, rfl, hc, hcm⟩ := (HS.rd i hi).shape
  have hi' := Lib.hid hi
  by_cases hle : k.length ≤ 64
  · have hle' : ¬ (64 : Int) < (k.length : Int) := by omega
    have HK := Lib.hid (show key64 k = k by rw [key64, if_pos hle])
    rw [HK.out]
    clear hi
    go_enter Tryd.func39, Tryd.ntmps39
    go_wp2_with fail
    refine (begun_m _ k 0x36 w hTB hle i hi'.out HS).mono ?_
    rintro e w1 ⟨g1, v1, rfl, HS1⟩
    go_wp2_with fail
    refine (begun_m _ k 0x5c w1 hTB hle (i + 2) hi'.out HS1).mono ?_
    rintro e w2 ⟨g2, v2, rfl, HS2⟩
    go_wp2
    go_ret
    exact ⟨_, g1, g2, v1, v2, rfl, ((HS2.alloc _ _).front 4 |>.front 4).front 2⟩
  · have hgt : (64 : Int) < (k.length : Int) := by omega
    have HK := Lib.hid (show key64 k = sha k by rw [key64, if_neg hle])
    obtain ⟨D, hD⟩ : ∃ x, sha k = x := ⟨_, rfl⟩
    rw [HK.out, hD]
    have HL := Lib.hid (show D.length = 32 by rw [← hD]; exact sha_length k)
    have HD := Lib.hid hD
    clear hD
    clear hi
    go_enter Tryd.func39, Tryd.ntmps39
    go_wp2_with fail
    refine (sum_a k _ w (hTB _ HS.hb) (HS.rd i hi'.out) (by omega)).mono ?_
    rintro e w1 ⟨rfl, b1⟩
    rw [HD.out]
    have HS1 := HS.keep b1
    clear HS
    go_wp2_with (first | refine wl_al HS1 rfl 32 rfl (bv (List.replicate 32 0)) (by kernel_rfl) ?_)
    intro g3 w3 HS3
    go_wp2_with (first | refine wl_st HS3 0 rfl rfl 32 _ _ rfl rfl rfl (by rw [bv_size, HL.out]; exact info_dg) (by rw [bv_size, bv_size, HL.out]; rfl) (bv_one _) ?_)
    intro w4 HS4
    have HS5 : Sep B w0 w4 (.rd (.slice (some ⟨g3, 0, none⟩) 32 32) D.length 1 (bl D) :: R) := by rw [HL.out]; exact HS4.rowRd 0 rfl 32 HL.out (by decide)
    clear HS3 HS1 HS4
    go_wp2_with fail
    refine (begun_m _ D 0x36 w4 hTB (by rw [HL.out]; decide) 0 rfl HS5).mono ?_
    rintro e w5 ⟨g1, v1, rfl, HS6⟩
    go_wp2_with fail
    refine (begun_m _ D 0x5c w5 hTB (by rw [HL.out]; decide) 2 rfl HS6).mono ?_
    rintro e w6 ⟨g2, v2, rfl, HS7⟩
    go_wp2
    go_ret
    exact ⟨_, g1, g2, v1, v2, rfl, (((HS7.alloc _ _).front 4 |>.front 4).front 2).sub (by repeat (first | exact List.Sublist.refl _ | apply List.Sublist.cons_cons | apply List.Sublist.cons))⟩
set_option maxHeartbeats 4000000 in
theorem keyWrite_m {B : Nat} {w0 : World} {R : List Pc} (gk g1 g2 : Nat) (v1 vb : Value) (m l : List UInt8) (w : World) (hTB : TabB B w0) (hl : m.length + l.length ≤ 1000000000000000000)
    (HS : Sep B w0 w (kyRow gk g1 g2 :: msRow g1 v1 m :: msOwn v1 m :: .rd vb l.length 1 (bl l) :: R)) :
    Calls Tryd.prog 27 #[.pointer (some ⟨gk, 0, none⟩), vb] w fun e w' => e = .returned (.int .i64 0) ∧ ∃ v', Sep B w0 w' (kyRow gk g1 g2 :: msRow g1 v' (m ++ l) :: msOwn v' (m ++ l) :: .rd vb l.length 1 (bl l) :: R) := by
  obtain ⟨Ab, cb, rfl, hcb, hcb2⟩ := (HS.rd 3 rfl).shape
  have c0 : w.cell? ⟨gk, 0, none⟩ = some (.pointer (some ⟨g1, 0, none⟩)) := by rw [row_cell (HS.row (g := gk) 0 rfl)]; rfl
  obtain ⟨m2, hm2⟩ : ∃ x, m ++ l = x := ⟨_, rfl⟩
  rw [hm2]
  have HM2 := Lib.hid hm2
  clear hm2
  go_enter Tryd.func27, Tryd.ntmps27
  go_wp2_with fail
  refine (write_m g1 v1 _ m l hTB hl ((HS.front 3).front 3 |>.front 3)).mono ?_
  rintro e w2 ⟨rfl, v2, HS2⟩
  rw [HM2.out] at HS2
  have HS3 := HS2.front 3
  clear HS HS2
  go_wp2
  go_ret
  exact ⟨rfl, v2, HS3⟩
set_option maxHeartbeats 4000000 in
theorem keySum_m {B : Nat} {w0 : World} {R : List Pc} (gk g1 g2 : Nat) (v1 v2 : Value) (m o : List UInt8) (w : World) (hTB : TabB B w0) (hl : m.length ≤ 1000000000000000000) (hlo : o.length ≤ 1000000000)
    (HS : Sep B w0 w (kyRow gk g1 g2 :: msRow g1 v1 m :: msOwn v1 m :: msRow g2 v2 o :: msOwn v2 o :: R)) :
    Calls Tryd.prog 28 #[.pointer (some ⟨gk, 0, none⟩)] w fun e w' => e = .returned (.agg (bv (sha (o ++ sha m)))) ∧ Sep B w0 w' (kyRow gk g1 g2 :: msRow g1 v1 m :: msOwn v1 m :: msRow g2 v2 o :: msOwn v2 o :: R) := by
  obtain ⟨D, hD⟩ : ∃ x, sha m = x := ⟨_, rfl⟩
  have hDl : D.length = 32 := by rw [← hD]; exact sha_length m
  obtain ⟨E, hE⟩ : ∃ x, sha (o ++ D) = x := ⟨_, rfl⟩
  have hEl : E.length = 32 := by rw [← hE]; exact sha_length _
  rw [hD, hE]
  have HD := Lib.hid hD
  have HE := Lib.hid hE
  have HDL := Lib.hid hDl
  have HEL := Lib.hid hEl
  clear hD hE hDl hEl
  go_enter Tryd.func28, Tryd.ntmps28
  go_wp2_with (refine wl_al HS rfl 32 rfl (bv (List.replicate 32 0)) (by kernel_rfl) ?_)
  intro ga w1 HS1
  have c0 : w1.cell? ⟨gk, 0, none⟩ = some (.pointer (some ⟨g1, 0, none⟩)) := by rw [row_cell (HS1.row (g := gk) 1 rfl)]; rfl
  go_wp2_with fail
  refine (clone_m g1 v1 m hl 2 3 rfl rfl HS1).mono ?_
  rintro e w2 ⟨g3, v3, rfl, HS2⟩
  clear c0
  go_wp2_with fail
  refine (sum_m g3 v3 m hTB hl 0 1 rfl rfl HS2).mono ?_
  rintro e w3 ⟨rfl, HS3⟩
  rw [HD.out]
  clear HS1 HS2
  go_wp2_with (first | refine wl_al HS3 rfl 32 rfl (bv (List.replicate 32 0)) (by kernel_rfl) ?_)
  intro gd w4 HS4
  go_wp2_with (first | refine wl_st HS4 0 rfl rfl 32 _ _ rfl rfl rfl (by rw [bv_size, HDL.out]; exact info_dg) (by rw [bv_size, bv_size, HDL.out]; rfl) (bv_one _) ?_)
  intro w5 HS5
  have c1 : w5.cell? ⟨gk, 1, none⟩ = some (.pointer (some ⟨g2, 0, none⟩)) := by rw [row_cell (HS5.row (g := gk) 4 rfl)]; rfl
  clear HS3 HS4
  go_wp2_with fail
  refine (clone_m g2 v2 o (by omega) 7 8 rfl rfl HS5).mono ?_
  rintro e w6 ⟨g6, v6, rfl, HS6⟩
  clear c1
  have HS7 := HS6.rowRdL 2 rfl 32 HDL.out (by decide)
  clear HS5 HS6
  go_wp2_with fail
  refine (write_m g6 v6 _ o D hTB (by rw [HDL.out]; omega) HS7).mono ?_
  rintro e w7 ⟨rfl, v7, HS8⟩
  clear HS7
  go_wp2_with fail
  refine (sum_m g6 v7 (o ++ D) hTB (by rw [List.length_append, HDL.out]; omega) 0 1 rfl rfl HS8).mono ?_
  rintro e w8 ⟨rfl, HS9⟩
  rw [HE.out]
  clear HS8
  go_wp2_with (first | refine wl_st HS9 5 rfl rfl 32 _ _ rfl rfl rfl (by rw [bv_size, HEL.out]; exact info_dg) (by rw [bv_size, bv_size, HEL.out]; rfl) (bv_one _) ?_)
  intro w9 HSa
  go_wp2_with fail
  exact ret_row rfl rfl ga rfl 32 (bv E) (0, 0) _ (HSa.row 5 rfl) Tryd.underlying32 rfl (by rw [bv_size, HEL.out]; exact info_dg) ⟨rfl, HSa.tail.tail.tail.tail.tail.tail⟩
end Go.Proofs.YtepcjdifjjombaaDoor
