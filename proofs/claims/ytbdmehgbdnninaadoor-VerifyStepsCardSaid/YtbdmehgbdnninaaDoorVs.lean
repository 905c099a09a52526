/- Proved here: any path between any two sizes leads to the document's two roots, or its error, and is accepted under just these. The table of constants is tied to the program's text. No condition. -/
import Derived.Test.YtbdmehgbdnninaaDoorTz
import Derived.Test.YtbdmehgbdnninaaDoorAk
import Derived.Test.YtbdmehgbdnninaaDoorFVerifySteps
namespace Go.Proofs.YtbdmehgbdnninaaDoor
open Go.RowKit Cop
set_option linter.unusedVariables false
set_option linter.unusedSimpArgs false
theorem names_07s (w : World) : Calls Tryd.prog 34 #[] w fun e w' => e = .returned (.bool true) ∧ w = w' := by
  go_enter Tryd.func34, Tryd.ntmps34
  go_wp2
  go_ret
  exact ⟨rfl, rfl⟩
set_option maxRecDepth 100000 in
set_option maxHeartbeats 8000000 in
theorem verifySteps_walk (path : List (List UInt8)) (v : Value) (i n : Int) (older newer : List UInt8) (w : World) (hT : Tab w) (hp : AllD path) (hpl : path.length ≤ 4398046510976) (hR : Rd w v path.length 32 (dcs path)) (hol : older.length = 32) (hnl : newer.length = 32) :
    Gives 9 #[.agg #[.int .i64 i, .int .i64 n, v], .agg (bv older), .agg (bv newer)] w (.bool true) := by
  obtain ⟨X, Y, E, hX, hY, h1, h2⟩ := roots_ab7 older path i n w hT hol hp (by omega)
  obtain ⟨F, f1, f2⟩ := cons_ab7 older newer path i n w hT hol hnl hp (by omega)
  obtain ⟨G, k1, k2⟩ := cons_ab7 X Y path i n w hT hX hY hp (by omega)
  have RA := Lib.hid h1
  have RB := Lib.hid h2
  have IA := Lib.hid f1
  have IB := Lib.hid f2
  have JA := Lib.hid k1
  have JB := Lib.hid k2
  have CL := Lib.hid (fun w' v hR => lent_a path v w' (by omega) hR)
  have CK := Lib.hid (fun w' va vb ha hb => kept_a path va vb w' hp (by omega) ha hb)
  have HEX := Lib.hid (fun w' : World => run_equal_bv (P := Tryd.prog) w' (d := 9998) Tryd.underlying26 Tryd.underlying5 (by kernel_rfl) X X hX hX)
  have HEY := Lib.hid (fun w' : World => run_equal_bv (P := Tryd.prog) w' (d := 9998) Tryd.underlying26 Tryd.underlying5 (by kernel_rfl) Y Y hY hY)
  have HS0 := (Sep.start w).arg0 hR
  obtain ⟨A, c, rfl, hc, hcm⟩ := hR.shape
  clear hR h1 h2 hp f1 f2 k1 k2
  go_enter Tryd.func9, Tryd.ntmps9
  go_wp2_with (first | refine wl_bx HS0 rfl 47 _ rfl #[.int .i64 i, .int .i64 n, .slice A path.length c] rfl ?_)
  intro g1 w1 HS1
  go_wp2_with (first | refine wl_bx HS1 rfl 26 _ rfl (bv older) rfl ?_)
  intro g2 w2 HS2
  go_wp2_with (first | refine wl_bx HS2 rfl 26 _ rfl (bv newer) rfl ?_)
  intro g3 w3 HS3
  have c2 := (ask_cells (HS3.row 2 rfl)).2.2
  clear HS0 HS1 HS2
  go_wp2_with fail
  (with_reducible refine Calls.mono (CL.out w3 _ (HS3.rd 3 rfl)) ?_)
  rintro e4 w4 ⟨x4, rfl, b4, o4⟩
  have HS4 := HS3.made b4 o4
  obtain ⟨A4, c4, rfl, _⟩ := (HS4.own 0 rfl).sl
  clear HS3 o4 c2
  have c0 := (ask_cells (HS4.row 3 rfl)).1
  have c1 := (ask_cells (HS4.row 3 rfl)).2.1
  go_wp2_with (first | refine wl_ld HS4 2 rfl rfl 26 _ rfl rfl Tryd.underlying26 rfl (dgS hol) ?_)
  (with_reducible refine Calls.mono (RA.out w4 _ HS4.hb (HS4.own 0 rfl).rd) ?_)
  rintro e w5 ⟨rfl, b5⟩
  have HS5 := HS4.keep b5
  clear HS4
  clear c0 c1
  go_wp2_with (first | refine wl_al HS5 rfl 26 rfl (bv (List.replicate 32 0)) (by kernel_rfl) ?_)
  intro g6 w6 HS6
  go_wp2_with (first | refine wl_al HS6 rfl 26 rfl (bv (List.replicate 32 0)) (by kernel_rfl) ?_)
  intro g7 w7 HS7
  go_wp2_with (first | refine wl_st HS7 1 rfl rfl 26 _ _ rfl rfl rfl (dgS hX) (dgE rfl hX) (bv_one _) ?_)
  intro w8 HS8
  go_wp2_with (first | refine wl_st HS8 0 rfl rfl 26 _ _ rfl rfl rfl (dgS hY) (dgE rfl hY) (bv_one _) ?_)
  intro wx HSx
  clear HS5 HS6 HS7 HS8
  have c0 := (ask_cells (HSx.row 5 rfl)).1
  have c1 := (ask_cells (HSx.row 5 rfl)).2.1
  have c2 := (ask_cells (HSx.row 5 rfl)).2.2
  go_wp2_with (first | refine wl_ld HSx 4 rfl rfl 26 _ rfl rfl Tryd.underlying26 rfl (dgS hol) ?_)
  (with_reducible refine Calls.mono (RB.out wx _ (HSx.rd 6 rfl)) ?_)
  rintro e wy ⟨rfl, bb5⟩
  have HSy := HSx.keep bb5
  clear HSx
  clear c0 c1 c2
  go_wp2_with (first | refine wl_al HSy rfl 26 rfl (bv (List.replicate 32 0)) (by kernel_rfl) ?_)
  intro gc wz HSz
  go_wp2_with (first | refine wl_al HSz rfl 26 rfl (bv (List.replicate 32 0)) (by kernel_rfl) ?_)
  intro gd wa HSa
  go_wp2_with (first | refine wl_st HSa 1 rfl rfl 26 _ _ rfl rfl rfl (dgS hX) (dgE rfl hX) (bv_one _) ?_)
  intro wb HSb
  go_wp2_with (first | refine wl_st HSb 0 rfl rfl 26 _ _ rfl rfl rfl (dgS hY) (dgE rfl hY) (bv_one _) ?_)
  intro wc HSc
  clear HSy HSz HSa HSb
  have q := HEX.out wc
  have q2 := HEY.out wc
  go_wp2_with (first | refine wl_ld HSc 3 rfl rfl 26 _ rfl rfl Tryd.underlying26 rfl (dgS hX) ?_ | refine wl_ld HSc 1 rfl rfl 26 _ rfl rfl Tryd.underlying26 rfl (dgS hX) ?_ | refine wl_ldg HSc 2 rfl 26 _ rfl rfl Tryd.underlying26 rfl (dgS hY) rfl ?_ | refine wl_ldg HSc 0 rfl 26 _ rfl rfl Tryd.underlying26 rfl (dgS hY) rfl ?_)
  refine Cop.region_ord (fun w' => Sep w.heap.size w w' [.row gd (bv Y) 26, .row gc (bv X) 26, .row g7 (bv Y) 26, .row g6 (bv X) 26, .own (.slice A4 path.length c4) 26 32 path.length (dcs path), .row g3 (bv newer) 26, .row g2 (bv older) 26, .row g1 #[.int .i64 i, .int .i64 n, .slice A path.length c] 47, .rd (.slice A path.length c) path.length 32 (dcs path)]) 21 (.take 0 (.take 1 (.take 2 (.take 3 (.take 4 (.take 5 (.take 6 (.take 7 (.take 8 (.take 10 (.take 11 (.take 12 (.take 13 (.take 14 (.take 15 (.take 16 (.take 17 (.run 9 (.run 18 (.take 19 (.take 20 (.take 21 Cop.Ord.fin)))))))))))))))))))))) (by kernel_rfl) (by kernel_rfl) (fun _ _ d _ _ h => by cases d <;> exact h) ?_
  intro wd hdd
  have HSd := HSc.keep hdd
  clear HSc q q2
  (repeat (first | (refine Cop.og_skip rfl rfl HSd _ (by (simp only [Act.put, List.setIfInBounds_toArray, List.set_cons_succ, List.set_cons_zero]; rfl)) ?_) | (refine Cop.og_ld rfl rfl HSd 26 _ rfl (.pointer (some ⟨g2, 0, none⟩)) rfl _ (fun w9 h9 => load_row (h9.row 6 rfl) 26 Tryd.underlying26 rfl (dgS hol)) _ (by (simp only [Act.put, List.setIfInBounds_toArray, List.set_cons_succ, List.set_cons_zero]; rfl)) ?_) | (refine Cop.og_ld rfl rfl HSd 26 _ rfl (.pointer (some ⟨g3, 0, none⟩)) rfl _ (fun w9 h9 => load_row (h9.row 5 rfl) 26 Tryd.underlying26 rfl (dgS hnl)) _ (by (simp only [Act.put, List.setIfInBounds_toArray, List.set_cons_succ, List.set_cons_zero]; rfl)) ?_) | (refine Cop.og_take rfl rfl HSd ?_; apply Exists.intro; refine ⟨fun w9 h9 => ?_, _, by (simp only [Act.put, List.setIfInBounds_toArray, List.set_cons_succ, List.set_cons_zero]; rfl), ?_⟩; (have c0 := (ask_cells (h9.row 7 rfl)).1; have c1 := (ask_cells (h9.row 7 rfl)).2.1; have c2 := (ask_cells (h9.row 7 rfl)).2.2; go_simp; with_reducible rfl))))
  refine Cop.og_run rfl rfl ?_
  refine ow_call 42 _ _ (fun w' => Below wd.heap.size wd w') (by go_simp) (IA.out wd _ HSd.hb (HSd.own 4 rfl).rd) ?_
  intro we be
  have HSe := HSd.keep be
  refine ⟨fun _ => HSe, ?_⟩
  (repeat (first | (refine Cop.og_skip rfl rfl HSe _ (by (simp only [Act.put, List.setIfInBounds_toArray, List.set_cons_succ, List.set_cons_zero]; rfl)) ?_) | (refine Cop.og_ld rfl rfl HSe 26 _ rfl (.pointer (some ⟨g2, 0, none⟩)) rfl _ (fun w9 h9 => load_row (h9.row 6 rfl) 26 Tryd.underlying26 rfl (dgS hol)) _ (by (simp only [Act.put, List.setIfInBounds_toArray, List.set_cons_succ, List.set_cons_zero]; rfl)) ?_) | (refine Cop.og_ld rfl rfl HSe 26 _ rfl (.pointer (some ⟨g3, 0, none⟩)) rfl _ (fun w9 h9 => load_row (h9.row 5 rfl) 26 Tryd.underlying26 rfl (dgS hnl)) _ (by (simp only [Act.put, List.setIfInBounds_toArray, List.set_cons_succ, List.set_cons_zero]; rfl)) ?_) | (refine Cop.og_take rfl rfl HSe ?_; apply Exists.intro; refine ⟨fun w9 h9 => ?_, _, by (simp only [Act.put, List.setIfInBounds_toArray, List.set_cons_succ, List.set_cons_zero]; rfl), ?_⟩; (have c0 := (ask_cells (h9.row 7 rfl)).1; have c1 := (ask_cells (h9.row 7 rfl)).2.1; have c2 := (ask_cells (h9.row 7 rfl)).2.2; go_simp; with_reducible rfl))))
  refine Cop.og_run rfl rfl ?_
  refine ow_call 43 _ _ (fun w' => Below we.heap.size we w') (by go_simp) (IB.out we _ (HSe.rd 8 rfl)) ?_
  intro wf bf
  have HSf := HSe.keep bf
  refine ⟨fun _ => HSf, ?_⟩
  (repeat (first | (refine Cop.og_skip rfl rfl HSf _ (by (simp only [Act.put, List.setIfInBounds_toArray, List.set_cons_succ, List.set_cons_zero]; rfl)) ?_) | (refine Cop.og_take rfl rfl HSf ?_; apply Exists.intro; refine ⟨fun w9 h9 => ?_, _, by (simp only [Act.put, List.setIfInBounds_toArray, List.set_cons_succ, List.set_cons_zero]; rfl), ?_⟩; (go_simp; with_reducible rfl))))
  refine og_fin ?_
  clear HSd HSe
  go_wp2
  refine Cop.region_ord (fun w' => Sep w.heap.size w w' [.row gd (bv Y) 26, .row gc (bv X) 26, .row g7 (bv Y) 26, .row g6 (bv X) 26, .own (.slice A4 path.length c4) 26 32 path.length (dcs path), .row g3 (bv newer) 26, .row g2 (bv older) 26, .row g1 #[.int .i64 i, .int .i64 n, .slice A path.length c] 47, .rd (.slice A path.length c) path.length 32 (dcs path)]) 21 (.take 0 (.take 1 (.take 2 (.take 3 (.take 4 (.take 5 (.take 6 (.take 7 (.take 8 (.take 10 (.take 11 (.take 12 (.take 13 (.take 14 (.take 15 (.take 16 (.take 17 (.run 9 (.run 18 (.take 19 (.take 20 (.take 21 Cop.Ord.fin)))))))))))))))))))))) (by kernel_rfl) (by kernel_rfl) (fun _ _ d _ _ h => by cases d <;> exact h) ?_
  intro wg hdg
  have HSg := HSf.keep hdg
  clear HSf
  (repeat (first | (refine Cop.og_skip rfl rfl HSg _ (by (simp only [Act.put, List.setIfInBounds_toArray, List.set_cons_succ, List.set_cons_zero]; rfl)) ?_) | (refine Cop.og_ld rfl rfl HSg 26 _ rfl (.pointer (some ⟨gc, 0, none⟩)) rfl _ (fun w9 h9 => load_row (h9.row 1 rfl) 26 Tryd.underlying26 rfl (dgS hX)) _ (by (simp only [Act.put, List.setIfInBounds_toArray, List.set_cons_succ, List.set_cons_zero]; rfl)) ?_) | (refine Cop.og_ld rfl rfl HSg 26 _ rfl (.pointer (some ⟨gd, 0, none⟩)) rfl _ (fun w9 h9 => load_row (h9.row 0 rfl) 26 Tryd.underlying26 rfl (dgS hY)) _ (by (simp only [Act.put, List.setIfInBounds_toArray, List.set_cons_succ, List.set_cons_zero]; rfl)) ?_) | (refine Cop.og_take rfl rfl HSg ?_; apply Exists.intro; refine ⟨fun w9 h9 => ?_, _, by (simp only [Act.put, List.setIfInBounds_toArray, List.set_cons_succ, List.set_cons_zero]; rfl), ?_⟩; (have c0 := (ask_cells (h9.row 7 rfl)).1; have c1 := (ask_cells (h9.row 7 rfl)).2.1; have c2 := (ask_cells (h9.row 7 rfl)).2.2; go_simp; with_reducible rfl))))
  refine Cop.og_run rfl rfl ?_
  refine ow_call 42 _ _ (fun w' => Below wg.heap.size wg w') (by go_simp) (JA.out wg _ HSg.hb (HSg.own 4 rfl).rd) ?_
  intro wh bh
  have HSh := HSg.keep bh
  refine ⟨fun _ => HSh, ?_⟩
  (repeat (first | (refine Cop.og_skip rfl rfl HSh _ (by (simp only [Act.put, List.setIfInBounds_toArray, List.set_cons_succ, List.set_cons_zero]; rfl)) ?_) | (refine Cop.og_ld rfl rfl HSh 26 _ rfl (.pointer (some ⟨gc, 0, none⟩)) rfl _ (fun w9 h9 => load_row (h9.row 1 rfl) 26 Tryd.underlying26 rfl (dgS hX)) _ (by (simp only [Act.put, List.setIfInBounds_toArray, List.set_cons_succ, List.set_cons_zero]; rfl)) ?_) | (refine Cop.og_ld rfl rfl HSh 26 _ rfl (.pointer (some ⟨gd, 0, none⟩)) rfl _ (fun w9 h9 => load_row (h9.row 0 rfl) 26 Tryd.underlying26 rfl (dgS hY)) _ (by (simp only [Act.put, List.setIfInBounds_toArray, List.set_cons_succ, List.set_cons_zero]; rfl)) ?_) | (refine Cop.og_take rfl rfl HSh ?_; apply Exists.intro; refine ⟨fun w9 h9 => ?_, _, by (simp only [Act.put, List.setIfInBounds_toArray, List.set_cons_succ, List.set_cons_zero]; rfl), ?_⟩; (have c0 := (ask_cells (h9.row 7 rfl)).1; have c1 := (ask_cells (h9.row 7 rfl)).2.1; have c2 := (ask_cells (h9.row 7 rfl)).2.2; go_simp; with_reducible rfl))))
  refine Cop.og_run rfl rfl ?_
  refine ow_call 43 _ _ (fun w' => Below wh.heap.size wh w') (by go_simp) (JB.out wh _ (HSh.rd 8 rfl)) ?_
  intro wi bi
  have HSi := HSh.keep bi
  refine ⟨fun _ => HSi, ?_⟩
  (repeat (first | (refine Cop.og_skip rfl rfl HSi _ (by (simp only [Act.put, List.setIfInBounds_toArray, List.set_cons_succ, List.set_cons_zero]; rfl)) ?_) | (refine Cop.og_take rfl rfl HSi ?_; apply Exists.intro; refine ⟨fun w9 h9 => ?_, _, by (simp only [Act.put, List.setIfInBounds_toArray, List.set_cons_succ, List.set_cons_zero]; rfl), ?_⟩; (go_simp; with_reducible rfl))))
  refine og_fin ?_
  clear HSg HSh
  have c2 := (ask_cells (HSi.row 7 rfl)).2.2
  go_wp2_with fail
  (with_reducible refine Calls.mono (CK.out wi _ _ (HSi.own 4 rfl).rd (HSi.rd 8 rfl)) ?_)
  rintro e wj ⟨rfl, bj⟩
  have HSj := HSi.keep bj
  clear HSi
  go_wp2_with fail
  refine (names_07s wj).mono ?_
  rintro e2 wk ⟨rfl, rfl⟩
  go_wp2
  go_ret
  exact ⟨rfl, HSj.hb⟩
set_option maxRecDepth 100000 in
theorem verifySteps_holds : Rows.VerifyStepsCardSaid := verifySteps.card_of_walk fun H enc W base v0 v1 v2 d0 d1 d2 p0 p1 p2 h0 k0 h1 k1 h2 k2 hsz hL => by
  obtain ⟨i, n, c, path, rfl, hR, hp, hpl⟩ := open_ask Tryd.underlying47 rfl rfl rfl rfl rfl rfl Tryd.underlying3 (by kernel_rfl) (by kernel_rfl) (by kernel_rfl) Tryd.underlying22 Tryd.underlying26 Tryd.underlying5 (by kernel_rfl) (by kernel_rfl) (by kernel_rfl) h0 k0 hsz 0 rfl rfl
  obtain ⟨older, hol, rfl⟩ := open_bytes Tryd.underlying26 Tryd.underlying5 (by kernel_rfl) (by kernel_rfl) h1 k1
  obtain ⟨newer, hnl, rfl⟩ := open_bytes Tryd.underlying26 Tryd.underlying5 (by kernel_rfl) (by kernel_rfl) h2 k2
  exact verifySteps_walk path c i n older newer W (table_of hL) hp hpl hR hol hnl
#print axioms verifySteps_holds
end Go.Proofs.YtbdmehgbdnninaaDoor
