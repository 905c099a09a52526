import Derived.Test.YtlhebogbbkjahaaDoorTb
import Derived.Test.YtlhebogbbkjahaaDoorSf
namespace Go.Proofs.YtlhebogbbkjahaaDoor
open Go.RowKit Cop
set_option linter.unusedVariables false
set_option linter.unusedSimpArgs false
theorem info_dg : (Tryd.prog.info? 33).map (·.size) = some 32 := by kernel_rfl
/-- The first n bytes of what is owned, as an array. -/
theorem load_own {P : Program} {B : Nat} {w : World} {e : TypeId} {A : Option Addr} {c m : Nat} {l : List UInt8} (h : Ow w B e 1 (.slice A m c) m (bl l)) (hl : l.length = m) (h0 : 0 < m) (ty : TypeId) {d : TypeDesc} (hu : P.underlying ty = some d) (hd : d.isRow = true) (hi : (P.info? ty).map (·.size) = some m) :
    (Instr.loadAt ty (.pointer A)).run P w = .ok (.agg (bv l)) w := by
  obtain ⟨g, rfl⟩ := h.addr h0
  exact load_rd h.rd rfl m (Nat.le_refl _) h0 (bv l) (by rw [bv_toList, List.take_of_length_le (by rw [bl_length]; omega)]) ty hu hd (by rw [bv_size, hl]; exact hi)
set_option maxHeartbeats 4000000 in
theorem sumS_gen (over : H8 → List UInt8 → H8) (wb : List UInt32 → List UInt8) (pad : Nat → List UInt8) (wb_length : ∀ l, (wb l).length = 4 * l.length) (pad_len : ∀ n, (pad n).length ≤ 128)
    (B : Nat) (w0 : World) (g : Nat) (n : Nat) (v : Value) (h : H8) (r : List UInt8) (R : List Pc) (w : World) (hr : r.length < 64) (hn : n ≤ 2305843009213693951)
    (take_a : ∀ (g : Nat) (v vb : Value) (l : List UInt8) (R : List Pc) (w : World), l.length ≤ 1000000000000000000 → Sep B w0 w (.row g (stv true h n v) 166 :: .own v 5 1 r.length (bl r) :: .rd vb l.length 1 (bl l) :: R) →
      Calls Tryd.prog 88 #[.pointer (some ⟨g, 0, none⟩), vb] w fun e w' => e = .returned (.tuple #[]) ∧ StA B w0 g true n vb l R (over h (r ++ l)) (tl (r ++ l)) w')
    (padding_a : ∀ (w : World), Calls Tryd.prog 90 #[.int .i64 n] w fun e w' => ∃ x, e = .returned (.tuple #[x, .int .i64 0]) ∧ Below w.heap.size w w' ∧ w'.ownsRow w.heap.size 5 1 x (pad n).length (bl (pad n)))
    (words_a : ∀ (h : H8) (w : World), Calls Tryd.prog 91 #[.agg (hv h)] w fun e w' => ∃ x, e = .returned x ∧ Below w.heap.size w w' ∧ w'.ownsRow w.heap.size 5 1 x 32 (bl (wb h.l)))
    (i j : Nat) (hi : R[i]? = some (.row g (stv true h n v) 166)) (hj : R[j]? = some (.own v 5 1 r.length (bl r))) (HS : Sep B w0 w R) :
    Calls Tryd.prog 78 #[.pointer (some ⟨g, 0, none⟩)] w fun e w' => e = .returned (.agg (bv (wb (over h (r ++ pad n)).l))) ∧ Sep B w0 w' R := by
  obtain ⟨D, hD⟩ : ∃ x, wb (over h (r ++ pad n)).l = x := ⟨_, rfl⟩
  rw [hD]
  have HD := Lib.hid hD
  have TA := Lib.hid take_a
  have PA := Lib.hid padding_a
  have WA := Lib.hid words_a
  have hpl := pad_len n
  have hi' := Lib.hid hi
  have hj' := Lib.hid hj
  have hwl := Lib.hid (show D.length = 32 by rw [← hD, wb_length]; rfl)
  clear take_a padding_a words_a wb_length pad_len hi hj hD
  go_enter Tryd.func78, Tryd.ntmps78
  go_wp2_with (refine wl_al HS rfl 33 rfl (bv (List.replicate 32 0)) (by kernel_rfl) ?_)
  intro g1 w1 HS1
  go_wp2_with fail
  refine (none_S HS1 (i + 1) hi'.out).mono ?_
  rintro e w2 ⟨rfl, rfl⟩
  go_wp2_with fail
  refine (clone_a B w0 g n v h r _ w2 hr (i + 1) (j + 1) hi'.out hj'.out HS1).mono ?_
  rintro e w3 ⟨g3, v3, rfl, HS3⟩
  have c9 := cell_n HS3 (i + 3) hi'.out
  go_wp2_with fail
  refine (PA.out _).mono ?_
  rintro e w4 ⟨p, rfl, b4, hp⟩
  have HS4 := ((HS3.madeRow b4 hp).toRd 0 rfl).front 2
  clear HS3 c9 HS1 HS
  go_wp2_with fail
  refine (TA.out g3 v3 p (pad n) _ w4 (by omega) (HS4.front 2)).mono ?_
  rintro e w5 ⟨rfl, v5, HS5⟩
  clear HS4
  generalize over h (r ++ pad n) = h5 at HS5 HD
  have HL := Lib.hid (load_mid (P := Tryd.prog) (HS5.row 0 rfl) 1 (hv h5) (stv_h true h5 n _) 157 Tryd.underlying157 rfl info_h8)
  go_wp2_with (first | refine wl_ldx rfl 157 _ rfl (.pointer (some ⟨g3, 1, none⟩)) rfl _ HL.out ?_)
  refine (WA.out h5 w5).mono ?_
  rintro e w6 ⟨x, rfl, b6, hx⟩
  rw [HD.out] at hx
  have HS6 := HS5.madeRow b6 hx
  obtain ⟨A6, c6, rfl, hc6⟩ := (HS6.own 0 rfl).sl
  have HL2 := Lib.hid (load_own (P := Tryd.prog) (HS6.own 0 rfl) hwl.out (by decide) 33 Tryd.underlying33 rfl info_dg)
  have e6 := run_arrayAt (P := Tryd.prog) w6 33 5 32 A6 32 c6 Tryd.underlying33 (by decide)
  clear HS5 hx HL TA PA WA
  go_wp2_with (first | refine wl_ldx rfl 33 _ rfl (.pointer A6) rfl _ HL2.out ?_ | refine wl_st HS6 4 rfl rfl 33 _ _ rfl rfl rfl (by rw [bv_size, hwl.out]; exact info_dg) (by rw [bv_size, bv_size, hwl.out]; rfl) (bv_one _) ?_)
  intro w7 HS7
  go_wp2_with fail
  exact ret_row rfl rfl g1 rfl 33 (bv D) (0, 0) _ (HS7.row 4 rfl) Tryd.underlying33 rfl (by rw [bv_size, hwl.out]; exact info_dg) ⟨rfl, HS7.tail.tail.tail.tail.tail⟩
theorem sumS_a (B : Nat) (w0 : World) (g : Nat) (n : Nat) (v : Value) (h : H8) (r : List UInt8) (R : List Pc) (w : World) (hTB : TabB B w0) (hr : r.length < 64) (hn : n ≤ 2305843009213693951)
    (i j : Nat) (hi : R[i]? = some (.row g (stv true h n v) 166)) (hj : R[j]? = some (.own v 5 1 r.length (bl r))) (HS : Sep B w0 w R) :
    Calls Tryd.prog 78 #[.pointer (some ⟨g, 0, none⟩)] w fun e w' => e = .returned (.agg (bv (endOf h n r))) ∧ Sep B w0 w' R :=
  sumS_gen over wb pad wb_length (fun n => by rw [pad_length]; omega) B w0 g n v h r R w hr hn (fun g v vb l R w hl HS => take_a B w0 g true n v vb h r l R w hTB hr hl HS) (fun w => padding_a n w hn) words_a i j hi hj HS
theorem endOf_length (h : H8) (n : Nat) (r : List UInt8) : (endOf h n r).length = 32 := by rw [endOf, wb_length]; rfl
/-- What came so far: all of it. -/
theorem over_step : ∀ (r : List UInt8) (h : H8) (l : List UInt8), over (over h r) (tl r ++ l) = over h (r ++ l) ∧ tl (tl r ++ l) = tl (r ++ l) := by
  intro r
  induction hk : r.length using Nat.strongRecOn generalizing r with
  | ind k ih =>
    intro h l
    by_cases h64 : 64 ≤ r.length
    · obtain ⟨h1, h2⟩ := ih (r.drop 64).length (by rw [List.length_drop]; omega) (r.drop 64) rfl (compress h (r.take 64)) l
      rw [over_more h r h64, tl_more r h64, h1, h2, over_more h (r ++ l) (by simp; omega), tl_more (r ++ l) (by simp; omega), List.take_append_of_le_length h64, List.drop_append_of_le_length h64]
      exact ⟨rfl, rfl⟩
    · rw [over_small h r (by omega), tl_small r (by omega)]
      exact ⟨rfl, rfl⟩
theorem endOf_step (h : H8) (n : Nat) (r : List UInt8) : endOf (over h r) n (tl r) = endOf h n r := by rw [endOf, endOf, (over_step r h (pad n)).1]
/-- A new state. -/
theorem new_S {B : Nat} {w0 w : World} {R : List Pc} (HS : Sep B w0 w R) : Calls Tryd.prog 76 #[] w fun e w' => ∃ g, e = .returned (.pointer (some ⟨g, 0, none⟩)) ∧
    Sep B w0 w' (.row g (stv true hbegin ((0 : Nat) : Int) (.slice none 0 0)) 166 :: .own (.slice none 0 0) 5 1 ([] : List UInt8).length (bl []) :: R) :=
  (new_a w).mono fun e w' ⟨g, he, hg, hb, hr⟩ => ⟨g, he, ((HS.fresh hb (p := .row g (stv true hbegin 0 (.slice none 0 0)) 166) ⟨Nat.le_trans HS.hB hg, hr⟩ (fun k hk => by cases hk; exact hg)).fresh (Below.refl _ _) (p := .own (.slice none 0 0) 5 1 0 []) (Ow.nil _ _ _ _ _) (fun k hk => by cases hk)).front 1⟩
set_option maxHeartbeats 4000000 in
/-- hash.Sum is SHA-256. -/
theorem sum_gen (D : List UInt8) (hDl : D.length = 32) (over : H8 → List UInt8 → H8) (hb : H8) (endOf : H8 → Nat → List UInt8 → List UInt8) (l : List UInt8) (hE : endOf (over hb ([] ++ l)) (0 + l.length) (tl ([] ++ l)) = D)
    (new_S : ∀ (B : Nat) (w0 w : World) (R : List Pc) (HS : Sep B w0 w R), Calls Tryd.prog 76 #[] w fun e w' => ∃ g, e = .returned (.pointer (some ⟨g, 0, none⟩)) ∧
      Sep B w0 w' (.row g (stv true hb ((0 : Nat) : Int) (.slice none 0 0)) 166 :: .own (.slice none 0 0) 5 1 ([] : List UInt8).length (bl []) :: R))
    (write_a : ∀ (B : Nat) (w0 : World) (g : Nat) (n : Nat) (v vb : Value) (h : H8) (r l : List UInt8) (R : List Pc) (w : World) (hTB : TabB B w0) (hr : r.length < 64) (hl : l.length ≤ 1000000000000000000) (hn : n + l.length ≤ 2305843009213693951)
      (HS : Sep B w0 w (.row g (stv true h n v) 166 :: .own v 5 1 r.length (bl r) :: .rd vb l.length 1 (bl l) :: R)),
      Calls Tryd.prog 77 #[.pointer (some ⟨g, 0, none⟩), vb] w fun e w' => e = .returned (.int .i64 0) ∧ StA B w0 g true ((n + l.length : Nat) : Int) vb l R (over h (r ++ l)) (tl (r ++ l)) w')
    (sumS_a : ∀ (B : Nat) (w0 : World) (g : Nat) (n : Nat) (v : Value) (h : H8) (r : List UInt8) (R : List Pc) (w : World) (hTB : TabB B w0) (hr : r.length < 64) (hn : n ≤ 2305843009213693951)
      (i j : Nat) (hi : R[i]? = some (.row g (stv true h n v) 166)) (hj : R[j]? = some (.own v 5 1 r.length (bl r))) (HS : Sep B w0 w R),
      Calls Tryd.prog 78 #[.pointer (some ⟨g, 0, none⟩)] w fun e w' => e = .returned (.agg (bv (endOf h n r))) ∧ Sep B w0 w' R)
    (vb : Value) (w : World) (hT : Tab w) (hR : Rd w vb l.length 1 (bl l)) (hl : l.length ≤ 1000000000000000000) :
    Calls Tryd.prog 63 #[vb] w fun e w' => e = .returned (.agg (bv D)) ∧ Below w.heap.size w w' := by
  have HE := Lib.hid hE
  have NA := Lib.hid new_S
  have WA := Lib.hid write_a
  have SA := Lib.hid sumS_a
  have hT := hT.base
  have HL := Lib.hid hDl
  have HS0 := (Sep.start w).arg0 hR
  clear hE new_S write_a sumS_a hDl hR
  go_enter Tryd.func63, Tryd.ntmps63
  go_wp2_with (refine wl_al HS0 rfl 33 rfl (bv (List.replicate 32 0)) (by kernel_rfl) ?_)
  intro g1 w1 HS1
  go_wp2_with fail
  refine (NA.out _ _ _ _ HS1).mono ?_
  rintro e w2 ⟨g2, rfl, HS2⟩
  go_wp2_with fail
  refine (WA.out _ _ g2 0 _ vb hb [] l _ w2 hT (by decide) hl (by omega) ((HS2.front 3).front 2 |>.front 2)).mono ?_
  rintro e w3 ⟨rfl, v3, HS3⟩
  have htl := tl_length ([] ++ l)
  go_wp2_with fail
  refine (SA.out _ _ g2 _ v3 _ _ _ w3 hT htl (by omega) 0 1 rfl rfl HS3).mono ?_
  rintro e w4 ⟨rfl, HS4⟩
  rw [HE.out]
  clear HS1 HS2 HS3 htl HE
  go_wp2_with (refine wl_st HS4 3 rfl rfl 33 _ _ rfl rfl rfl (by rw [bv_size, HL.out]; exact info_dg) (by rw [bv_size, bv_size, HL.out]; rfl) (bv_one _) ?_)
  intro w7 HS7
  go_wp2_with fail
  exact ret_row rfl rfl g1 rfl 33 (bv D) (0, 0) _ (HS7.row 3 rfl) Tryd.underlying33 rfl (by rw [bv_size, HL.out]; exact info_dg) ⟨rfl, HS7.hb⟩
theorem sum_a (l : List UInt8) (vb : Value) (w : World) (hT : Tab w) (hR : Rd w vb l.length 1 (bl l)) (hl : l.length ≤ 1000000000000000000) :
    Calls Tryd.prog 63 #[vb] w fun e w' => e = .returned (.agg (bv (sha l))) ∧ Below w.heap.size w w' :=
  sum_gen (sha l) (sha_length l) over hbegin endOf l (by rw [List.nil_append, Nat.zero_add, endOf_step]; rfl) (fun _ _ _ _ HS => new_S HS) write_a sumS_a vb w hT hR hl
end Go.Proofs.YtlhebogbbkjahaaDoor
