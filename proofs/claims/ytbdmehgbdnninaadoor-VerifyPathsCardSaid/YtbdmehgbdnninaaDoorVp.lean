/- Proved here: any path of any leaf leads to the document's root, or its error, and is accepted under just that root. The table of constants is tied to the program's text. No condition. -/
import Derived.Test.YtbdmehgbdnninaaDoorVi
import Derived.Test.YtbdmehgbdnninaaDoorAk
import Derived.Test.YtbdmehgbdnninaaDoorFVerifyPaths
namespace Go.Proofs.YtbdmehgbdnninaaDoor
open Go.RowKit Cop
set_option linter.unusedVariables false
set_option linter.unusedSimpArgs false
theorem names_07 (w : World) : Calls Tryd.prog 34 #[] w fun e w' => e = .returned (.bool true) ∧ w = w' := by
  go_enter Tryd.func34, Tryd.ntmps34
  go_wp2
  go_ret
  exact ⟨rfl, rfl⟩
set_option maxRecDepth 100000 in
set_option maxHeartbeats 4000000 in
theorem verifyPaths_walk (path : List (List UInt8)) (v : Value) (i n : Int) (leaf root : List UInt8) (w : World) (hT : Tab w) (hp : AllD path) (hpl : path.length ≤ 4398046510976) (hR : Rd w v path.length 32 (dcs path)) (hlf : leaf.length = 32) (hrt : root.length = 32) :
    Gives 6 #[.agg #[.int .i64 i, .int .i64 n, v], .agg (bv leaf), .agg (bv root)] w (.bool true) := by
  obtain ⟨X, E, hX, h1, h2⟩ := root_ab7 leaf path i n w hT hlf hp (by omega)
  obtain ⟨F, hF⟩ : ∃ F : Int, (E ≠ 0 ∧ F = E) ∨ (E = 0 ∧ X = root ∧ F = 0) ∨ (E = 0 ∧ X ≠ root ∧ F = 71) := by
    by_cases hE : E = 0
    · by_cases hx : X = root
      · exact ⟨0, .inr (.inl ⟨hE, hx, rfl⟩)⟩
      · exact ⟨71, .inr (.inr ⟨hE, hx, rfl⟩)⟩
    · exact ⟨E, .inl ⟨hE, rfl⟩⟩
  have hG : (E ≠ 0 ∧ E = E) ∨ (E = 0 ∧ X = X ∧ E = 0) ∨ (E = 0 ∧ X ≠ X ∧ E = 71) := by
    by_cases hE : E = 0
    · exact .inr (.inl ⟨hE, rfl, hE⟩)
    · exact .inl ⟨hE, rfl⟩
  have RA := Lib.hid h1
  have RB := Lib.hid h2
  have IA := Lib.hid (fun w' v (hb : Below w.heap.size w w') (hR : Rd w' v path.length 32 (dcs path)) => vincl leaf root X E F i n v w' hlf hrt hX hF (fun w2 hb2 => h1 w2 v (bcall hb hb2) (hR.below hb2)))
  have IB := Lib.hid (fun w' v (hR : Rd w' v path.length 32 (dcs path)) => rincl leaf root X E F i n v w' hlf hrt hX hF (fun w2 hb2 => h2 w2 v (hR.below hb2)))
  have IX := Lib.hid (fun w' v (hb : Below w.heap.size w w') (hR : Rd w' v path.length 32 (dcs path)) => vincl leaf X X E E i n v w' hlf hX hX hG (fun w2 hb2 => h1 w2 v (bcall hb hb2) (hR.below hb2)))
  have CL := Lib.hid (fun w' v hR => lent_a path v w' (by omega) hR)
  have CK := Lib.hid (fun w' va vb ha hb => kept_a path va vb w' hp (by omega) ha hb)
  have HEQ := Lib.hid (fun w' : World => run_equal_bv (P := Tryd.prog) w' (d := 9998) Tryd.underlying26 Tryd.underlying5 (by kernel_rfl) X X hX hX)
  have HS0 := (Sep.start w).arg0 hR
  obtain ⟨A, c, rfl, hc, hcm⟩ := hR.shape
  clear hR h1 h2 hp hF hG
  go_enter Tryd.func6, Tryd.ntmps6
  go_wp2_with (first | refine wl_bx HS0 rfl 47 _ rfl #[.int .i64 i, .int .i64 n, .slice A path.length c] rfl ?_)
  intro g1 w1 HS1
  go_wp2_with (first | refine wl_bx HS1 rfl 26 _ rfl (bv leaf) rfl ?_)
  intro g2 w2 HS2
  go_wp2_with (first | refine wl_bx HS2 rfl 26 _ rfl (bv root) rfl ?_)
  intro g3 w3 HS3
  have c2 := (ask_cells (HS3.row 2 rfl)).2.2
  clear HS0 HS1 HS2
  go_wp2_with fail
  (with_reducible refine Calls.mono (CL.out w3 _ (HS3.rd 3 rfl)) ?_)
  rintro e4 w4 ⟨x4, rfl, b4, o4⟩
  have HS4 := HS3.made b4 o4
  obtain ⟨A4, c4, rfl, _⟩ := (HS4.own 0 rfl).sl
  clear HS3 o4 c2
  have c0 := (ask_cells (HS4.row 3 rfl)).1
  have c1 := (ask_cells (HS4.row 3 rfl)).2.1
  go_wp2_with (first | refine wl_ld HS4 2 rfl rfl 26 _ rfl rfl Tryd.underlying26 rfl (dgS hlf) ?_)
  (with_reducible refine Calls.mono (RA.out w4 _ HS4.hb (HS4.own 0 rfl).rd) ?_)
  rintro e w5 ⟨rfl, b5⟩
  have HS5 := HS4.keep b5
  clear HS4
  clear c0 c1
  go_wp2_with (first | refine wl_al HS5 rfl 26 rfl (bv (List.replicate 32 0)) (by kernel_rfl) ?_)
  intro g6 w6 HS6
  go_wp2_with (first | refine wl_st HS6 0 rfl rfl 26 _ _ rfl rfl rfl (dgS hX) (dgE rfl hX) (bv_one _) ?_)
  intro w7 HS7
  clear HS5 HS6
  have c0 := (ask_cells (HS7.row 4 rfl)).1
  have c1 := (ask_cells (HS7.row 4 rfl)).2.1
  have c2 := (ask_cells (HS7.row 4 rfl)).2.2
  go_wp2_with (first | refine wl_ld HS7 3 rfl rfl 26 _ rfl rfl Tryd.underlying26 rfl (dgS hlf) ?_)
  (with_reducible refine Calls.mono (RB.out w7 _ (HS7.rd 5 rfl)) ?_)
  rintro e w8 ⟨rfl, b8⟩
  have HS8 := HS7.keep b8
  clear HS7
  clear c0 c1 c2
  go_wp2_with (first | refine wl_al HS8 rfl 26 rfl (bv (List.replicate 32 0)) (by kernel_rfl) ?_)
  intro ga wa HSa
  go_wp2_with (first | refine wl_st HSa 0 rfl rfl 26 _ _ rfl rfl rfl (dgS hX) (dgE rfl hX) (bv_one _) ?_)
  intro wb HSb
  clear HS8 HSa
  have q := HEQ.out wb
  go_wp2_with (first | refine wl_ld HSb 0 rfl rfl 26 _ rfl rfl Tryd.underlying26 rfl (dgS hX) ?_ | refine wl_ld HSb 1 rfl rfl 26 _ rfl rfl Tryd.underlying26 rfl (dgS hX) ?_)
  refine Cop.region_ord (fun w' => Sep w.heap.size w w' [.row ga (bv X) 26, .row g6 (bv X) 26, .own (.slice A4 path.length c4) 26 32 path.length (dcs path), .row g3 (bv root) 26, .row g2 (bv leaf) 26, .row g1 #[.int .i64 i, .int .i64 n, .slice A path.length c] 47, .rd (.slice A path.length c) path.length 32 (dcs path)]) 21 (.take 0 (.take 1 (.take 2 (.take 3 (.take 4 (.take 5 (.take 6 (.take 7 (.take 8 (.take 10 (.take 11 (.take 12 (.take 13 (.take 14 (.take 15 (.take 16 (.take 17 (.run 9 (.run 18 (.take 19 (.take 20 (.take 21 Cop.Ord.fin)))))))))))))))))))))) (by kernel_rfl) (by kernel_rfl) (fun _ _ d _ _ h => by cases d <;> exact h) ?_
  intro wc hdc
  have HSc := HSb.keep hdc
  clear HSb q
  (repeat (first | (refine Cop.og_skip rfl rfl HSc _ (by (simp only [Act.put, List.setIfInBounds_toArray, List.set_cons_succ, List.set_cons_zero]; rfl)) ?_) | (refine Cop.og_ld rfl rfl HSc 26 _ rfl (.pointer (some ⟨g2, 0, none⟩)) rfl _ (fun w9 h9 => load_row (h9.row 4 rfl) 26 Tryd.underlying26 rfl (dgS hlf)) _ (by (simp only [Act.put, List.setIfInBounds_toArray, List.set_cons_succ, List.set_cons_zero]; rfl)) ?_) | (refine Cop.og_ld rfl rfl HSc 26 _ rfl (.pointer (some ⟨g3, 0, none⟩)) rfl _ (fun w9 h9 => load_row (h9.row 3 rfl) 26 Tryd.underlying26 rfl (dgS hrt)) _ (by (simp only [Act.put, List.setIfInBounds_toArray, List.set_cons_succ, List.set_cons_zero]; rfl)) ?_) | (refine Cop.og_take rfl rfl HSc ?_; apply Exists.intro; refine ⟨fun w9 h9 => ?_, _, by (simp only [Act.put, List.setIfInBounds_toArray, List.set_cons_succ, List.set_cons_zero]; rfl), ?_⟩; (have c0 := (ask_cells (h9.row 5 rfl)).1; have c1 := (ask_cells (h9.row 5 rfl)).2.1; have c2 := (ask_cells (h9.row 5 rfl)).2.2; go_simp; with_reducible rfl))))
  refine Cop.og_run rfl rfl ?_
  refine ow_call 31 _ _ (fun w' => Below wc.heap.size wc w') (by go_simp) (IA.out wc _ HSc.hb (HSc.own 2 rfl).rd) ?_
  intro wd bd
  have HSd := HSc.keep bd
  refine ⟨fun _ => HSd, ?_⟩
  (repeat (first | (refine Cop.og_skip rfl rfl HSd _ (by (simp only [Act.put, List.setIfInBounds_toArray, List.set_cons_succ, List.set_cons_zero]; rfl)) ?_) | (refine Cop.og_ld rfl rfl HSd 26 _ rfl (.pointer (some ⟨g2, 0, none⟩)) rfl _ (fun w9 h9 => load_row (h9.row 4 rfl) 26 Tryd.underlying26 rfl (dgS hlf)) _ (by (simp only [Act.put, List.setIfInBounds_toArray, List.set_cons_succ, List.set_cons_zero]; rfl)) ?_) | (refine Cop.og_ld rfl rfl HSd 26 _ rfl (.pointer (some ⟨g3, 0, none⟩)) rfl _ (fun w9 h9 => load_row (h9.row 3 rfl) 26 Tryd.underlying26 rfl (dgS hrt)) _ (by (simp only [Act.put, List.setIfInBounds_toArray, List.set_cons_succ, List.set_cons_zero]; rfl)) ?_) | (refine Cop.og_take rfl rfl HSd ?_; apply Exists.intro; refine ⟨fun w9 h9 => ?_, _, by (simp only [Act.put, List.setIfInBounds_toArray, List.set_cons_succ, List.set_cons_zero]; rfl), ?_⟩; (have c0 := (ask_cells (h9.row 5 rfl)).1; have c1 := (ask_cells (h9.row 5 rfl)).2.1; have c2 := (ask_cells (h9.row 5 rfl)).2.2; go_simp; with_reducible rfl))))
  refine Cop.og_run rfl rfl ?_
  refine ow_call 32 _ _ (fun w' => Below wd.heap.size wd w') (by go_simp) (IB.out wd _ (HSd.rd 6 rfl)) ?_
  intro we be
  have HSe := HSd.keep be
  refine ⟨fun _ => HSe, ?_⟩
  (repeat (first | (refine Cop.og_skip rfl rfl HSe _ (by (simp only [Act.put, List.setIfInBounds_toArray, List.set_cons_succ, List.set_cons_zero]; rfl)) ?_) | (refine Cop.og_take rfl rfl HSe ?_; apply Exists.intro; refine ⟨fun w9 h9 => ?_, _, by (simp only [Act.put, List.setIfInBounds_toArray, List.set_cons_succ, List.set_cons_zero]; rfl), ?_⟩; (go_simp; with_reducible rfl))))
  refine og_fin ?_
  clear HSc HSd
  have c0 := (ask_cells (HSe.row 5 rfl)).1
  have c1 := (ask_cells (HSe.row 5 rfl)).2.1
  have c2 := (ask_cells (HSe.row 5 rfl)).2.2
  go_wp2_with (first | refine wl_ldg HSe 4 rfl 26 _ rfl rfl Tryd.underlying26 rfl (dgS hlf) rfl ?_ | refine wl_ldg HSe 0 rfl 26 _ rfl rfl Tryd.underlying26 rfl (dgS hX) rfl ?_)
  (with_reducible refine Calls.mono (IX.out we _ HSe.hb (HSe.own 2 rfl).rd) ?_)
  rintro e wf ⟨rfl, bf⟩
  have HSf := HSe.keep bf
  clear HSe
  clear c0 c1 c2
  have c2 := (ask_cells (HSf.row 5 rfl)).2.2
  go_wp2_with fail
  (with_reducible refine Calls.mono (CK.out wf _ _ (HSf.own 2 rfl).rd (HSf.rd 6 rfl)) ?_)
  rintro e wg ⟨rfl, bg⟩
  have HSg := HSf.keep bg
  clear HSf
  go_wp2_with fail
  refine (names_07 wg).mono ?_
  rintro e2 wh ⟨rfl, rfl⟩
  go_wp2
  go_ret
  exact ⟨rfl, HSg.hb⟩
set_option maxRecDepth 100000 in
theorem verifyPaths_holds : Rows.VerifyPathsCardSaid := verifyPaths.card_of_walk fun H enc W base v0 v1 v2 d0 d1 d2 p0 p1 p2 h0 k0 h1 k1 h2 k2 hsz hL => by
  obtain ⟨i, n, c, path, rfl, hR, hp, hpl⟩ := open_ask Tryd.underlying47 rfl rfl rfl rfl rfl rfl Tryd.underlying3 (by kernel_rfl) (by kernel_rfl) (by kernel_rfl) Tryd.underlying22 Tryd.underlying26 Tryd.underlying5 (by kernel_rfl) (by kernel_rfl) (by kernel_rfl) h0 k0 hsz 0 rfl rfl
  obtain ⟨leaf, hlf, rfl⟩ := open_bytes Tryd.underlying26 Tryd.underlying5 (by kernel_rfl) (by kernel_rfl) h1 k1
  obtain ⟨root, hrt, rfl⟩ := open_bytes Tryd.underlying26 Tryd.underlying5 (by kernel_rfl) (by kernel_rfl) h2 k2
  exact verifyPaths_walk path c i n leaf root W (table_of hL) hp hpl hR hlf hrt
#print axioms verifyPaths_holds
end Go.Proofs.YtbdmehgbdnninaaDoor
