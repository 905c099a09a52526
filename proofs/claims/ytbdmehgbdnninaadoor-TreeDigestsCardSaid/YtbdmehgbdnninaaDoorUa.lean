/- Proved here: leaves and nodes have the document's digests, and every size its split. The table of constants is tied to the program's text. No condition. -/
import Derived.Test.YtbdmehgbdnninaaDoorTn
import Derived.Test.YtbdmehgbdnninaaDoorHl
import Derived.Test.YtbdmehgbdnninaaDoorFTreeDigests
namespace Go.Proofs.YtbdmehgbdnninaaDoor
open Go.RowKit Cop
set_option linter.unusedVariables false
set_option linter.unusedSimpArgs false
theorem split_ab (n : Nat) (hn : n ≤ 4611686018427387904) : ∃ K E : Int, (∀ w, Calls Tryd.prog 19 #[.int .i64 n] w fun e w' => e = .returned (.tuple #[.int .i64 K, .int .i64 E]) ∧ w = w') ∧
    ∀ w, Calls Tryd.prog 20 #[.int .i64 n] w fun e w' => e = .returned (.tuple #[.int .i64 K, .int .i64 E]) ∧ w = w' := by
  by_cases h : n < 2
  · exact ⟨0, 40, fun w => split_lo n w (by omega), fun w => splitB_lo n w (by omega)⟩
  · refine ⟨(hf n : Nat), 0, fun w => ?_, fun w => splitB_hi n w (by omega) hn⟩
    have := split_hi n w (by omega) (by omega)
    rwa [Int.toNat_natCast] at this
theorem names_04 (w : World) : Calls Tryd.prog 18 #[] w fun e w' => e = .returned (.bool true) ∧ w = w' := by
  go_enter Tryd.func18, Tryd.ntmps18
  go_wp2
  go_ret
  exact ⟨rfl, rfl⟩
set_option maxRecDepth 100000 in
set_option maxHeartbeats 4000000 in
theorem treeDigests_walk (l a b : List UInt8) (v : Value) (w : World) (hT : Tab w) (hR : Rd w v l.length 1 (bl l)) (hl : l.length ≤ 140737488351232) (ha : a.length = 32) (hb : b.length = 32) :
    Calls Tryd.prog 4 #[v, .agg (bv a), .agg (bv b)] w fun e w' => e = .returned (.bool true) ∧ Below w.heap.size w w' := by
  have LA := Lib.hid (leaf_a l)
  have LB := Lib.hid (leaf_b l)
  have NA := Lib.hid (fun w hT => node_a a b w hT ha hb)
  have NB := Lib.hid (fun w => node_b a b w ha hb)
  have EA := Lib.hid (fun w hT => empty_a w hT)
  have EB := Lib.hid (fun w => empty_b w)
  have hd1 := leafD_length l
  have hd2 := nodeD_length a b
  have hd3 := sha_length []
  obtain ⟨D1, hD1⟩ : ∃ x, leafD l = x := ⟨_, rfl⟩
  obtain ⟨D2, hD2⟩ : ∃ x, nodeD a b = x := ⟨_, rfl⟩
  obtain ⟨D3, hD3⟩ : ∃ x, sha [] = x := ⟨_, rfl⟩
  rw [hD1] at LA LB hd1
  rw [hD2] at NA NB hd2
  rw [hD3] at EA EB hd3
  obtain ⟨K, E, hs1, hs2⟩ := split_ab l.length (by omega)
  have SA := Lib.hid hs1
  have SB := Lib.hid hs2
  have HQ1 := Lib.hid (fun w' : World => run_equal_bv (P := Tryd.prog) w' (d := 9998) Tryd.underlying26 Tryd.underlying5 (by kernel_rfl) D1 D1 hd1 hd1)
  have HQ2 := Lib.hid (fun w' : World => run_equal_bv (P := Tryd.prog) w' (d := 9998) Tryd.underlying26 Tryd.underlying5 (by kernel_rfl) D2 D2 hd2 hd2)
  have HQ3 := Lib.hid (fun w' : World => run_equal_bv (P := Tryd.prog) w' (d := 9998) Tryd.underlying26 Tryd.underlying5 (by kernel_rfl) D3 D3 hd3 hd3)
  have HAL := Lib.hid ha
  have HBL := Lib.hid hb
  have HTB := Lib.hid (fun w' (h : Below w.heap.size w w') => hT.base w' h)
  have HS0 := (Sep.start w).arg0 hR
  obtain ⟨A, c, rfl, hc, hcm⟩ := hR.shape
  obtain ⟨L, hL⟩ : ∃ x, l ++ [90] = x := ⟨_, rfl⟩
  have hLl : L.length = l.length + 1 := by rw [← hL]; simp
  have hlL : l.length ≤ L.length := by omega
  have hl2 : L.length ≤ 140737488355328 := by omega
  have HL := Lib.hid hL
  have HLl := Lib.hid hLl
  clear hR hL hLl hD1 hD2 hD3 hd1 hd2 hd3 ha hb hs1 hs2
  go_enter Tryd.func4, Tryd.ntmps4
  go_wp2_with (first | refine wl_bx HS0 rfl 26 _ rfl (bv a) rfl ?_)
  intro g1 w1 HS1
  go_wp2_with (first | refine wl_bx HS1 rfl 26 _ rfl (bv b) rfl ?_)
  intro g2 w2 HS2
  go_wp2_with fail
  refine (SA.out w2).mono ?_
  rintro e w3 ⟨rfl, rfl⟩
  go_wp2_with fail
  refine (SB.out w2).mono ?_
  rintro e w3 ⟨rfl, rfl⟩
  have HS3 := HS2.built #[] 5 0 1 rfl (by decide)
  clear HS0 HS1 HS2
  go_wp2_with (refine wl_apb (xs := []) HS3 0 rfl rfl rfl (HS3.rd 3 rfl) rfl rfl l.length l (by simp) rfl (by omega) ?_)
  intro v1 w4 HS4 _
  go_wp2_with (first | refine wl_bs HS4 rfl 36 5 1 1 _ rfl (bl [90]) (.int .u8 0) Tryd.underlying36 (by kernel_rfl) (by decide) (by decide) (by kernel_rfl) rfl ?_)
  intro g5 w5 HS5
  go_wp2_with (refine wl_apb HS5 1 rfl rfl rfl (HS5.own 0 rfl).rd rfl rfl L.length L HLl.out.symm HL.out hl2 ?_)
  intro v6 w6 HS6 _
  obtain ⟨A6, c6, rfl, hc6⟩ := (HS6.own 1 rfl).sl
  obtain ⟨A7, c7, hc7, hm7, HR7, _, hs7⟩ := rd_to (HS6.own 1 rfl).rd Tryd.underlying36 info_u8' l.length hlL
  rw [← HL.out, List.take_left' rfl] at HR7
  have HS7X := Lib.hid hs7
  clear HS3 HS4 HS5 hs7
  go_wp2
  refine Cop.region_ord (fun w' => Sep w.heap.size w w' [.own (.slice A6 L.length c6) 5 1 L.length (bl L), .row g2 (bv b) 26, .row g1 (bv a) 26, .rd (.slice A l.length c) l.length 1 (bl l)]) 42 (.take 0 (.take 1 (.take 2 (.take 4 (.run 3 (.run 5 (.take 6 (.take 7 (.take 8 (.take 9 (.take 10 (.take 11 (.take 12 (.take 13 (.take 14 (.take 15 (.take 16 (.take 17 (.take 19 (.take 20 (.run 18 (.run 21 (.take 22 (.take 23 (.take 24 (.run 25 (.run 26 (.take 27 (.take 28 (.take 29 (.take 30 (.take 31 (.take 32 (.take 33 (.take 34 (.take 35 (.take 36 (.take 37 (.take 38 (.take 39 (.run 40 (.take 41 (.take 42 Cop.Ord.fin))))))))))))))))))))))))))))))))))))))))))) (by kernel_rfl) (by kernel_rfl) (fun _ _ d _ _ h => by cases d <;> exact h) ?_
  intro wa hda
  have HSwa := HS6.keep hda
  have HTwa : Sep w.heap.size w wa [.own (.slice A6 L.length c6) 5 1 L.length (bl L), .row g2 (bv b) 26, .row g1 (bv a) 26, .rd (.slice A l.length c) l.length 1 (bl l)] := HSwa.sub (by repeat (first | exact List.nil_sublist _ | exact List.Sublist.refl _ | apply List.Sublist.cons_cons | apply List.Sublist.cons))
  have HR7a := HR7.below hda
  clear HS6 HR7
  (repeat (first | (refine Cop.og_skip rfl rfl HTwa _ (by (simp only [Act.put, List.setIfInBounds_toArray, List.set_cons_succ, List.set_cons_zero]; rfl)) ?_) | (refine Cop.og_ld rfl rfl HTwa 26 _ rfl (.pointer (some ⟨g1, 0, none⟩)) rfl _ (fun w9 h9 => load_row (h9.row 2 rfl) 26 Tryd.underlying26 rfl (by rw [bv_size, HAL.out]; exact info_dg)) _ (by (simp only [Act.put, List.setIfInBounds_toArray, List.set_cons_succ, List.set_cons_zero]; rfl)) ?_) | (refine Cop.og_ld rfl rfl HTwa 26 _ rfl (.pointer (some ⟨g2, 0, none⟩)) rfl _ (fun w9 h9 => load_row (h9.row 1 rfl) 26 Tryd.underlying26 rfl (by rw [bv_size, HBL.out]; exact info_dg)) _ (by (simp only [Act.put, List.setIfInBounds_toArray, List.set_cons_succ, List.set_cons_zero]; rfl)) ?_) | (refine Cop.og_take rfl rfl HTwa ?_; apply Exists.intro; refine ⟨fun w9 h9 => ?_, _, by (simp only [Act.put, List.setIfInBounds_toArray, List.set_cons_succ, List.set_cons_zero]; rfl), ?_⟩; (have e := HS7X.out; go_simp; with_reducible rfl))))
  refine Cop.og_run rfl rfl ?_
  refine ow_call 21 _ _ (fun w' => Below wa.heap.size wa w') (by go_simp) (LA.out _ wa (HTB.out _ HSwa.hb) HR7a (by omega)) ?_
  intro wb bwb
  have HSwb := HSwa.keep bwb
  have HTwb := HTwa.keep bwb
  refine ⟨fun _ => HTwb, ?_⟩
  (repeat (first | (refine Cop.og_skip rfl rfl HTwb _ (by (simp only [Act.put, List.setIfInBounds_toArray, List.set_cons_succ, List.set_cons_zero]; rfl)) ?_) | (refine Cop.og_ld rfl rfl HTwb 26 _ rfl (.pointer (some ⟨g1, 0, none⟩)) rfl _ (fun w9 h9 => load_row (h9.row 2 rfl) 26 Tryd.underlying26 rfl (by rw [bv_size, HAL.out]; exact info_dg)) _ (by (simp only [Act.put, List.setIfInBounds_toArray, List.set_cons_succ, List.set_cons_zero]; rfl)) ?_) | (refine Cop.og_ld rfl rfl HTwb 26 _ rfl (.pointer (some ⟨g2, 0, none⟩)) rfl _ (fun w9 h9 => load_row (h9.row 1 rfl) 26 Tryd.underlying26 rfl (by rw [bv_size, HBL.out]; exact info_dg)) _ (by (simp only [Act.put, List.setIfInBounds_toArray, List.set_cons_succ, List.set_cons_zero]; rfl)) ?_) | (refine Cop.og_take rfl rfl HTwb ?_; apply Exists.intro; refine ⟨fun w9 h9 => ?_, _, by (simp only [Act.put, List.setIfInBounds_toArray, List.set_cons_succ, List.set_cons_zero]; rfl), ?_⟩; (go_simp; with_reducible rfl))))
  refine Cop.og_run rfl rfl ?_
  refine ow_call 22 _ _ (fun w' => Below wb.heap.size wb w') (by go_simp) (LB.out _ wb (HSwb.rd 4 rfl) (by omega)) ?_
  intro wc bwc
  have HSwc := HSwb.keep bwc
  have HTwc := HTwb.keep bwc
  refine ⟨fun _ => HTwc, ?_⟩
  (repeat (first | (refine Cop.og_skip rfl rfl HTwc _ (by (simp only [Act.put, List.setIfInBounds_toArray, List.set_cons_succ, List.set_cons_zero]; rfl)) ?_) | (refine Cop.og_ld rfl rfl HTwc 26 _ rfl (.pointer (some ⟨g1, 0, none⟩)) rfl _ (fun w9 h9 => load_row (h9.row 2 rfl) 26 Tryd.underlying26 rfl (by rw [bv_size, HAL.out]; exact info_dg)) _ (by (simp only [Act.put, List.setIfInBounds_toArray, List.set_cons_succ, List.set_cons_zero]; rfl)) ?_) | (refine Cop.og_ld rfl rfl HTwc 26 _ rfl (.pointer (some ⟨g2, 0, none⟩)) rfl _ (fun w9 h9 => load_row (h9.row 1 rfl) 26 Tryd.underlying26 rfl (by rw [bv_size, HBL.out]; exact info_dg)) _ (by (simp only [Act.put, List.setIfInBounds_toArray, List.set_cons_succ, List.set_cons_zero]; rfl)) ?_) | (refine Cop.og_take rfl rfl HTwc ?_; apply Exists.intro; refine ⟨fun w9 h9 => ?_, _, by (simp only [Act.put, List.setIfInBounds_toArray, List.set_cons_succ, List.set_cons_zero]; rfl), ?_⟩; (have q1 := HQ1.out w9; have s1 := Rd.string (P := Tryd.prog) (h9.own 0 rfl).rd Tryd.underlying36 Tryd.underlying5 Tryd.underlying9; have s2 := Rd.string (P := Tryd.prog) (h9.rd 3 rfl) Tryd.underlying36 Tryd.underlying5 Tryd.underlying9; unfold sv at s1 s2; have hbe := bytes_eq L l 90 HL.out; have hct : ¬ (9223372036854775807 < l.length + 1) := (by omega); go_simp; with_reducible rfl))))
  refine Cop.og_run rfl rfl ?_
  refine ow_call 23 _ _ (fun w' => Below wc.heap.size wc w') (by go_simp) (NA.out wc (HTB.out _ HSwc.hb)) ?_
  intro wd bwd
  have HSwd := HSwc.keep bwd
  have HTwd := HTwc.keep bwd
  refine ⟨fun _ => HTwd, ?_⟩
  (repeat (first | (refine Cop.og_skip rfl rfl HTwd _ (by (simp only [Act.put, List.setIfInBounds_toArray, List.set_cons_succ, List.set_cons_zero]; rfl)) ?_) | (refine Cop.og_ld rfl rfl HTwd 26 _ rfl (.pointer (some ⟨g1, 0, none⟩)) rfl _ (fun w9 h9 => load_row (h9.row 2 rfl) 26 Tryd.underlying26 rfl (by rw [bv_size, HAL.out]; exact info_dg)) _ (by (simp only [Act.put, List.setIfInBounds_toArray, List.set_cons_succ, List.set_cons_zero]; rfl)) ?_) | (refine Cop.og_ld rfl rfl HTwd 26 _ rfl (.pointer (some ⟨g2, 0, none⟩)) rfl _ (fun w9 h9 => load_row (h9.row 1 rfl) 26 Tryd.underlying26 rfl (by rw [bv_size, HBL.out]; exact info_dg)) _ (by (simp only [Act.put, List.setIfInBounds_toArray, List.set_cons_succ, List.set_cons_zero]; rfl)) ?_) | (refine Cop.og_take rfl rfl HTwd ?_; apply Exists.intro; refine ⟨fun w9 h9 => ?_, _, by (simp only [Act.put, List.setIfInBounds_toArray, List.set_cons_succ, List.set_cons_zero]; rfl), ?_⟩; (go_simp; with_reducible rfl))))
  refine Cop.og_run rfl rfl ?_
  refine ow_call 24 _ _ (fun w' => Below wd.heap.size wd w') (by go_simp) (NB.out wd) ?_
  intro we bwe
  have HSwe := HSwd.keep bwe
  have HTwe := HTwd.keep bwe
  refine ⟨fun _ => HTwe, ?_⟩
  (repeat (first | (refine Cop.og_skip rfl rfl HTwe _ (by (simp only [Act.put, List.setIfInBounds_toArray, List.set_cons_succ, List.set_cons_zero]; rfl)) ?_) | (refine Cop.og_ld rfl rfl HTwe 26 _ rfl (.pointer (some ⟨g1, 0, none⟩)) rfl _ (fun w9 h9 => load_row (h9.row 2 rfl) 26 Tryd.underlying26 rfl (by rw [bv_size, HAL.out]; exact info_dg)) _ (by (simp only [Act.put, List.setIfInBounds_toArray, List.set_cons_succ, List.set_cons_zero]; rfl)) ?_) | (refine Cop.og_ld rfl rfl HTwe 26 _ rfl (.pointer (some ⟨g2, 0, none⟩)) rfl _ (fun w9 h9 => load_row (h9.row 1 rfl) 26 Tryd.underlying26 rfl (by rw [bv_size, HBL.out]; exact info_dg)) _ (by (simp only [Act.put, List.setIfInBounds_toArray, List.set_cons_succ, List.set_cons_zero]; rfl)) ?_) | (refine Cop.og_take rfl rfl HTwe ?_; apply Exists.intro; refine ⟨fun w9 h9 => ?_, _, by (simp only [Act.put, List.setIfInBounds_toArray, List.set_cons_succ, List.set_cons_zero]; rfl), ?_⟩; (have q2 := HQ2.out w9; go_simp; with_reducible rfl))))
  refine Cop.og_run rfl rfl ?_
  refine ow_call 25 _ _ (fun w' => Below we.heap.size we w') (by go_simp) (EA.out we (HTB.out _ HSwe.hb)) ?_
  intro wf bwf
  have HSwf := HSwe.keep bwf
  have HTwf := HTwe.keep bwf
  refine ⟨fun _ => HTwf, ?_⟩
  (repeat (first | (refine Cop.og_skip rfl rfl HTwf _ (by (simp only [Act.put, List.setIfInBounds_toArray, List.set_cons_succ, List.set_cons_zero]; rfl)) ?_) | (refine Cop.og_ld rfl rfl HTwf 26 _ rfl (.pointer (some ⟨g1, 0, none⟩)) rfl _ (fun w9 h9 => load_row (h9.row 2 rfl) 26 Tryd.underlying26 rfl (by rw [bv_size, HAL.out]; exact info_dg)) _ (by (simp only [Act.put, List.setIfInBounds_toArray, List.set_cons_succ, List.set_cons_zero]; rfl)) ?_) | (refine Cop.og_ld rfl rfl HTwf 26 _ rfl (.pointer (some ⟨g2, 0, none⟩)) rfl _ (fun w9 h9 => load_row (h9.row 1 rfl) 26 Tryd.underlying26 rfl (by rw [bv_size, HBL.out]; exact info_dg)) _ (by (simp only [Act.put, List.setIfInBounds_toArray, List.set_cons_succ, List.set_cons_zero]; rfl)) ?_) | (refine Cop.og_take rfl rfl HTwf ?_; apply Exists.intro; refine ⟨fun w9 h9 => ?_, _, by (simp only [Act.put, List.setIfInBounds_toArray, List.set_cons_succ, List.set_cons_zero]; rfl), ?_⟩; (go_simp; with_reducible rfl))))
  refine Cop.og_run rfl rfl ?_
  refine ow_call 26 _ _ (fun w' => Below wf.heap.size wf w') (by go_simp) (EB.out wf) ?_
  intro wg bwg
  have HSwg := HSwf.keep bwg
  have HTwg := HTwf.keep bwg
  refine ⟨fun _ => HTwg, ?_⟩
  (repeat (first | (refine Cop.og_skip rfl rfl HTwg _ (by (simp only [Act.put, List.setIfInBounds_toArray, List.set_cons_succ, List.set_cons_zero]; rfl)) ?_) | (refine Cop.og_ld rfl rfl HTwg 26 _ rfl (.pointer (some ⟨g1, 0, none⟩)) rfl _ (fun w9 h9 => load_row (h9.row 2 rfl) 26 Tryd.underlying26 rfl (by rw [bv_size, HAL.out]; exact info_dg)) _ (by (simp only [Act.put, List.setIfInBounds_toArray, List.set_cons_succ, List.set_cons_zero]; rfl)) ?_) | (refine Cop.og_ld rfl rfl HTwg 26 _ rfl (.pointer (some ⟨g2, 0, none⟩)) rfl _ (fun w9 h9 => load_row (h9.row 1 rfl) 26 Tryd.underlying26 rfl (by rw [bv_size, HBL.out]; exact info_dg)) _ (by (simp only [Act.put, List.setIfInBounds_toArray, List.set_cons_succ, List.set_cons_zero]; rfl)) ?_) | (refine Cop.og_take rfl rfl HTwg ?_; apply Exists.intro; refine ⟨fun w9 h9 => ?_, _, by (simp only [Act.put, List.setIfInBounds_toArray, List.set_cons_succ, List.set_cons_zero]; rfl), ?_⟩; (have q3 := HQ3.out w9; go_simp; with_reducible rfl))))
  refine Cop.og_run rfl rfl ?_
  refine ow_call 18 _ _ (fun w' => wg = w') (by go_simp) (names_04 wg) ?_
  rintro wh rfl
  refine ⟨fun _ => HTwg, ?_⟩
  (repeat (first | (refine Cop.og_skip rfl rfl HTwg _ (by (simp only [Act.put, List.setIfInBounds_toArray, List.set_cons_succ, List.set_cons_zero]; rfl)) ?_) | (refine Cop.og_take rfl rfl HTwg ?_; apply Exists.intro; refine ⟨fun w9 h9 => ?_, _, by (simp only [Act.put, List.setIfInBounds_toArray, List.set_cons_succ, List.set_cons_zero]; rfl), ?_⟩; (go_simp; with_reducible rfl))))
  refine og_fin ?_
  go_wp2
  go_ret
  exact ⟨rfl, HSwg.hb⟩
set_option maxRecDepth 100000 in
theorem treeDigests_holds : Rows.TreeDigestsCardSaid := treeDigests.card_of_walk fun H enc W base v0 v1 v2 d0 d1 d2 p0 p1 p2 h0 k0 h1 k1 h2 k2 hsz hL => by
  obtain ⟨l, hR, hl⟩ := open_bslice Tryd.underlying36 Tryd.underlying5 (by kernel_rfl) (by kernel_rfl) h0 k0 hsz 0 rfl rfl
  obtain ⟨a, ha, rfl⟩ := open_bytes Tryd.underlying26 Tryd.underlying5 (by kernel_rfl) (by kernel_rfl) h1 k1
  obtain ⟨b, hb, rfl⟩ := open_bytes Tryd.underlying26 Tryd.underlying5 (by kernel_rfl) (by kernel_rfl) h2 k2
  exact treeDigests_walk l a b v0 W (table_of hL) hR hl ha hb
#print axioms treeDigests_holds
end Go.Proofs.YtbdmehgbdnninaaDoor
