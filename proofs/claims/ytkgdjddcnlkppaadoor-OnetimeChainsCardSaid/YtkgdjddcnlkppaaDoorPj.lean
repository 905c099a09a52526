/- Proved here: any chain goes on from any place to any other as the document says, or is refused. The table of constants is tied to the program's text. No condition. -/
import Derived.Test.YtkgdjddcnlkppaaDoorPi
import Derived.Test.YtkgdjddcnlkppaaDoorFOnetimeChains
namespace Go.Proofs.YtkgdjddcnlkppaaDoor
open Go.RowKit Cop
set_option linter.unusedVariables false
set_option linter.unusedSimpArgs false
theorem open_three {H : Type} {enc : TypeId × Value → H} {P : Program} {w : World} {base : Nat} {spare : Nat → Bool} {held : Bool} {t t0 : TypeId} {v : Value} {d : DataW H} {ps : List MemPlace} {r : Reach} {base' : Nat} {f0 f1 f2 : Field} {k : IntKind}
    (ht : P.underlying t = some (.struct #[f0, f1, f2])) (e0 : f0.type = t0) (e1 : f1.type = t0) (e2 : f2.type = t0) (o0 : f0.offset = 0) (o1 : f1.offset = 1) (o2 : f2.offset = 2) (hi : P.underlying t0 = some (.int k)) (hc0 : P.cellsOf t0 = 1) (hc : P.cellsOf t = 3)
    (h : DataW.Trod enc P w base spare held t v d ps) (hok : Value.okWide P w r base' t v) : ∃ m n p : Int, v = .agg #[.int k m, .int k n, .int k p] ∧ (Lit.int k m).wf = true ∧ (Lit.int k n).wf = true ∧ (Lit.int k p).wf = true := by
  obtain ⟨cs, rfl, hsz⟩ := Go.WideShapes.okWide_struct ht hok
  obtain ⟨fuel, hf⟩ := h
  obtain ⟨xs, n, _, _, hl, hlen, hff⟩ := DataW.trod_struct ht hf
  obtain ⟨y0, y1, y2, rfl⟩ : ∃ y0 y1 y2, xs = [y0, y1, y2] := by
    match xs, hlen with
    | [y0, y1, y2], _ => exact ⟨_, _, _, rfl⟩
  have h0 := hff 0 f0 rfl
  have h1 := hff 1 f1 rfl
  have h2 := hff 2 f2 rfl
  simp only [List.getElem?_cons_zero, List.getElem?_cons_succ] at h0 h1 h2
  obtain ⟨l⟩ := cs
  rw [hc] at hsz
  match l, hsz with
  | [a, b, c], _ =>
    rw [e0, o0, hc0] at h0
    rw [e1, o1, hc0] at h1
    rw [e2, o2, hc0] at h2
    obtain ⟨m, hm, _, w0⟩ := DataW.trod_int hi h0
    obtain ⟨n, hn, _, w1⟩ := DataW.trod_int hi h1
    obtain ⟨p, hp, _, w2⟩ := DataW.trod_int hi h2
    simp [Value.cells] at hm hn hp
    exact ⟨m, n, p, by simp [hm, hn, hp], w0, w1, w2⟩
theorem names_19 (w : World) : Calls Tryd.prog 13 #[] w fun e w' => e = .returned (.bool true) ∧ w = w' := by
  go_enter Tryd.func13, Tryd.ntmps13
  go_wp2
  go_ret
  exact ⟨rfl, rfl⟩
theorem may_yes (i j m : Int) (w : World) (h : 0 ≤ i ∧ i < 133 ∧ 0 ≤ j ∧ j ≤ 3 ∧ j ≤ m ∧ m ≤ 3) : Calls Tryd.prog 12 #[.int .i64 i, .int .i64 j, .int .i64 m] w fun e w' => e = .returned (.bool true) ∧ w = w' := by
  obtain ⟨h1, h2, h3, h4, h5, h6⟩ := h
  go_enter Tryd.func12, Tryd.ntmps12
  go_wp2
  go_ret
  exact ⟨rfl, rfl⟩
theorem may_no (i j m : Int) (w : World) (hno : ¬ (0 ≤ i ∧ i < 133 ∧ 0 ≤ j ∧ j ≤ 3 ∧ j ≤ m ∧ m ≤ 3)) : Calls Tryd.prog 12 #[.int .i64 i, .int .i64 j, .int .i64 m] w fun e w' => e = .returned (.bool false) ∧ w = w' := by
  have HNO := Lib.hid hno
  clear hno
  go_enter Tryd.func12, Tryd.ntmps12
  rcases (show ¬ 0 ≤ i ∨ (0 ≤ i ∧ ¬ i < 133) ∨ (0 ≤ i ∧ i < 133 ∧ ¬ 0 ≤ j) ∨ (0 ≤ i ∧ i < 133 ∧ 0 ≤ j ∧ ¬ j ≤ 3) ∨ (0 ≤ i ∧ i < 133 ∧ 0 ≤ j ∧ j ≤ 3 ∧ ¬ j ≤ m) ∨ (0 ≤ i ∧ i < 133 ∧ 0 ≤ j ∧ j ≤ 3 ∧ j ≤ m ∧ ¬ m ≤ 3) from by have := HNO.out; omega) with h1 | ⟨h1, h2⟩ | ⟨h1, h2, h3⟩ | ⟨h1, h2, h3, h4⟩ | ⟨h1, h2, h3, h4, h5⟩ | ⟨h1, h2, h3, h4, h5, h6⟩
  all_goals
    go_wp2
    go_ret
    exact ⟨rfl, rfl⟩
set_option maxRecDepth 100000 in
set_option maxHeartbeats 4000000 in
theorem onetimeChains_no (s x : List UInt8) (i j m : Int) (w : World) (hs : s.length = 32) (hx : x.length = 32) (hno : ¬ (0 ≤ i ∧ i < 133 ∧ 0 ≤ j ∧ j ≤ 3 ∧ j ≤ m ∧ m ≤ 3)) :
    Calls Tryd.prog 3 #[.agg (bv s), .agg #[.int .i64 i, .int .i64 j, .int .i64 m], .agg (bv x)] w fun e w' => e = .returned (.bool true) ∧ Below w.heap.size w w' := by
  have CN := Lib.hid (fun w => chainNo_a s x i j m w hs hx hno)
  have CM := Lib.hid (fun w => may_no i j m w hno)
  have HS0 := Sep.start w
  have heq := fun w' : World => run_equal_bv (P := Tryd.prog) w' (d := 9998) Tryd.underlying23 Tryd.underlying5 (by kernel_rfl) [0, 0, 0, 0, 0, 0, 0, 0, 0, 0, 0, 0, 0, 0, 0, 0, 0, 0, 0, 0, 0, 0, 0, 0, 0, 0, 0, 0, 0, 0, 0, 0] [0, 0, 0, 0, 0, 0, 0, 0, 0, 0, 0, 0, 0, 0, 0, 0, 0, 0, 0, 0, 0, 0, 0, 0, 0, 0, 0, 0, 0, 0, 0, 0] rfl rfl
  clear hno
  go_enter Tryd.func3, Tryd.ntmps3
  go_wp2_with (first | refine wl_bx HS0 rfl 23 _ rfl (bv s) rfl ?_)
  intro g1 w1 HS1
  go_wp2_with (first | refine wl_bx HS1 rfl 25 _ rfl #[.int .i64 i, .int .i64 j, .int .i64 m] rfl ?_)
  intro g2 w2 HS2
  go_wp2_with (first | refine wl_bx HS2 rfl 23 _ rfl (bv x) rfl ?_)
  intro g3 w3 HS3
  clear HS0 HS1 HS2
  have c0 : w3.cell? ⟨g2, 0, none⟩ = some (.int .i64 i) := by rw [row_cell (HS3.row 1 rfl)]; rfl
  have c1 : w3.cell? ⟨g2, 1, none⟩ = some (.int .i64 j) := by rw [row_cell (HS3.row 1 rfl)]; rfl
  have c2 : w3.cell? ⟨g2, 2, none⟩ = some (.int .i64 m) := by rw [row_cell (HS3.row 1 rfl)]; rfl
  go_wp2_with (first | refine wl_ld HS3 2 rfl rfl 23 _ rfl rfl Tryd.underlying23 rfl (by rw [bv_size, hs]; exact info_dg) ?_ | refine wl_ld HS3 0 rfl rfl 23 _ rfl rfl Tryd.underlying23 rfl (by rw [bv_size, hx]; exact info_dg) ?_)
  refine (CN.out w3).mono ?_
  rintro e w4 ⟨rfl, b4⟩
  have HS4 := HS3.keep b4
  clear HS3 c0 c1 c2
  go_wp2_with (first | refine wl_al HS4 rfl 23 rfl (bv (List.replicate 32 0)) (by kernel_rfl) ?_)
  intro g5 w5 HS5
  go_wp2_with (first | refine wl_st HS5 0 rfl rfl 23 _ _ rfl rfl (cs := bv (List.replicate 32 0)) rfl (by rw [bv_size]; exact info_dg) rfl (bv_one _) ?_)
  intro w6 HS6
  have c0 : w6.cell? ⟨g2, 0, none⟩ = some (.int .i64 i) := by rw [row_cell (HS6.row 2 rfl)]; rfl
  have c1 : w6.cell? ⟨g2, 1, none⟩ = some (.int .i64 j) := by rw [row_cell (HS6.row 2 rfl)]; rfl
  have c2 : w6.cell? ⟨g2, 2, none⟩ = some (.int .i64 m) := by rw [row_cell (HS6.row 2 rfl)]; rfl
  clear HS4 HS5
  go_wp2_with fail
  refine (CM.out w6).mono ?_
  rintro e w7 ⟨rfl, rfl⟩
  clear c0 c1 c2
  have zl := zlit
  go_wp2_with (first | refine wl_ld HS6 0 rfl rfl 23 _ rfl rfl Tryd.underlying23 rfl (by rw [bv_size]; exact info_dg) ?_)
  refine (names_19 w6).mono ?_
  rintro e w7 ⟨rfl, rfl⟩
  go_wp2
  go_ret
  exact ⟨rfl, HS6.hb⟩
set_option maxRecDepth 100000 in
set_option maxHeartbeats 4000000 in
theorem onetimeChains_yes (s x : List UInt8) (i j k : Nat) (w : World) (hT : Tab w) (hs : s.length = 32) (hx : x.length = 32) (hi : i < 133) (hk : j + k ≤ 3) :
    Calls Tryd.prog 3 #[.agg (bv s), .agg #[.int .i64 i, .int .i64 j, .int .i64 ((j + k : Nat) : Int)], .agg (bv x)] w fun e w' => e = .returned (.bool true) ∧ Below w.heap.size w w' := by
  have CN := Lib.hid (fun w hT => chainOk_a s x i j k w hT hs hx hi hk)
  have CR := Lib.hid (fun w => refChain_b s x i j k w hs hx (by omega) (by omega))
  have CM := Lib.hid (fun w => may_yes i j ((j + k : Nat) : Int) w (by omega))
  obtain ⟨D, hD⟩ : ∃ y, chainD s i j k x = y := ⟨_, rfl⟩
  have hDl : D.length = 32 := by rw [← hD]; exact chainD_length s i k j x hx
  rw [hD] at CN CR
  obtain ⟨m, hm⟩ : ∃ y, j + k = y := ⟨_, rfl⟩
  rw [hm] at CN CR CM ⊢
  have HDL := Lib.hid hDl
  have HS0 := Sep.start w
  have HTB := hT.base
  have HEQ := Lib.hid (fun w' : World => run_equal_bv (P := Tryd.prog) w' (d := 9998) Tryd.underlying23 Tryd.underlying5 (by kernel_rfl) D D hDl hDl)
  clear hD hDl hm hi hk
  go_enter Tryd.func3, Tryd.ntmps3
  go_wp2_with (first | refine wl_bx HS0 rfl 23 _ rfl (bv s) rfl ?_)
  intro g1 w1 HS1
  go_wp2_with (first | refine wl_bx HS1 rfl 25 _ rfl #[.int .i64 i, .int .i64 j, .int .i64 m] rfl ?_)
  intro g2 w2 HS2
  go_wp2_with (first | refine wl_bx HS2 rfl 23 _ rfl (bv x) rfl ?_)
  intro g3 w3 HS3
  clear HS0 HS1 HS2
  have c0 : w3.cell? ⟨g2, 0, none⟩ = some (.int .i64 i) := by rw [row_cell (HS3.row 1 rfl)]; rfl
  have c1 : w3.cell? ⟨g2, 1, none⟩ = some (.int .i64 j) := by rw [row_cell (HS3.row 1 rfl)]; rfl
  have c2 : w3.cell? ⟨g2, 2, none⟩ = some (.int .i64 m) := by rw [row_cell (HS3.row 1 rfl)]; rfl
  go_wp2_with (first | refine wl_ld HS3 2 rfl rfl 23 _ rfl rfl Tryd.underlying23 rfl (by rw [bv_size, hs]; exact info_dg) ?_ | refine wl_ld HS3 0 rfl rfl 23 _ rfl rfl Tryd.underlying23 rfl (by rw [bv_size, hx]; exact info_dg) ?_)
  refine (CN.out w3 (HTB _ HS3.hb)).mono ?_
  rintro e w4 ⟨rfl, b4⟩
  have HS4 := HS3.keep b4
  clear HS3 c0 c1 c2
  go_wp2_with (first | refine wl_al HS4 rfl 23 rfl (bv (List.replicate 32 0)) (by kernel_rfl) ?_)
  intro g5 w5 HS5
  go_wp2_with (first | refine wl_st HS5 0 rfl rfl 23 _ _ rfl rfl rfl (by rw [bv_size, HDL.out]; exact info_dg) (by rw [bv_size, bv_size, HDL.out]; rfl) (bv_one _) ?_)
  intro w6 HS6
  have c0 : w6.cell? ⟨g2, 0, none⟩ = some (.int .i64 i) := by rw [row_cell (HS6.row 2 rfl)]; rfl
  have c1 : w6.cell? ⟨g2, 1, none⟩ = some (.int .i64 j) := by rw [row_cell (HS6.row 2 rfl)]; rfl
  have c2 : w6.cell? ⟨g2, 2, none⟩ = some (.int .i64 m) := by rw [row_cell (HS6.row 2 rfl)]; rfl
  clear HS4 HS5
  go_wp2_with fail
  refine (CM.out w6).mono ?_
  rintro e w7 ⟨rfl, rfl⟩
  clear c0 c1 c2
  go_wp2
  refine Cop.region_ord (fun w' => Sep w.heap.size w w' [.row g5 (bv D) 23, .row g3 (bv x) 23, .row g2 #[.int .i64 i, .int .i64 j, .int .i64 m] 25, .row g1 (bv s) 23]) 15 (.take 0 (.take 1 (.take 2 (.take 3 (.take 4 (.take 5 (.take 6 (.take 7 (.take 8 (.run 9 (.take 10 (.take 11 (.take 12 (.take 13 (.take 14 (.take 15 Cop.Ord.fin)))))))))))))))) (by kernel_rfl) (by kernel_rfl) (fun _ _ d _ _ h => by cases d <;> exact h) ?_
  intro wa hda
  have HSa := HS6.keep hda
  have HTa : Sep w.heap.size w wa [.row g5 (bv D) 23, .row g3 (bv x) 23, .row g2 #[.int .i64 i, .int .i64 j, .int .i64 m] 25, .row g1 (bv s) 23] := HSa
  (repeat (first | (refine Cop.og_skip rfl rfl HTa _ (by (simp only [Act.put, List.setIfInBounds_toArray, List.set_cons_succ, List.set_cons_zero]; rfl)) ?_) | (refine Cop.og_ld rfl rfl HTa 23 _ rfl (.pointer (some ⟨g5, 0, none⟩)) rfl _ (fun w9 h9 => load_row (h9.row 0 rfl) 23 Tryd.underlying23 rfl (by rw [bv_size, HDL.out]; exact info_dg)) _ (by (simp only [Act.put, List.setIfInBounds_toArray, List.set_cons_succ, List.set_cons_zero]; rfl)) ?_) | (refine Cop.og_ld rfl rfl HTa 23 _ rfl (.pointer (some ⟨g3, 0, none⟩)) rfl _ (fun w9 h9 => load_row (h9.row 1 rfl) 23 Tryd.underlying23 rfl (by rw [bv_size, hx]; exact info_dg)) _ (by (simp only [Act.put, List.setIfInBounds_toArray, List.set_cons_succ, List.set_cons_zero]; rfl)) ?_) | (refine Cop.og_ld rfl rfl HTa 23 _ rfl (.pointer (some ⟨g1, 0, none⟩)) rfl _ (fun w9 h9 => load_row (h9.row 3 rfl) 23 Tryd.underlying23 rfl (by rw [bv_size, hs]; exact info_dg)) _ (by (simp only [Act.put, List.setIfInBounds_toArray, List.set_cons_succ, List.set_cons_zero]; rfl)) ?_) | (refine Cop.og_take rfl rfl HTa ?_; apply Exists.intro; refine ⟨fun w9 h9 => ?_, _, by (simp only [Act.put, List.setIfInBounds_toArray, List.set_cons_succ, List.set_cons_zero]; rfl), ?_⟩; (have c0 := row_cell (h9.row 2 rfl) 0; have c1 := row_cell (h9.row 2 rfl) 1; have c2 := row_cell (h9.row 2 rfl) 2; go_simp; with_reducible rfl))))
  refine Cop.og_run rfl rfl ?_
  refine ow_call 14 _ _ (fun w' => Below wa.heap.size wa w') (by go_simp) (CR.out wa) ?_
  intro wb bb
  have HSb := HSa.keep bb
  have HTb := HTa.keep bb
  refine ⟨fun _ => HTb, ?_⟩
  (repeat (first | (refine Cop.og_skip rfl rfl HTb _ (by (simp only [Act.put, List.setIfInBounds_toArray, List.set_cons_succ, List.set_cons_zero]; rfl)) ?_) | (refine Cop.og_take rfl rfl HTb ?_; apply Exists.intro; refine ⟨fun w9 h9 => ?_, _, by (simp only [Act.put, List.setIfInBounds_toArray, List.set_cons_succ, List.set_cons_zero]; rfl), ?_⟩; (have q1 := HEQ.out w9; go_simp; with_reducible rfl))))
  refine og_fin ?_
  go_wp2
  go_ret
  exact ⟨rfl, HSb.hb⟩
theorem onetimeChains_walk (s x : List UInt8) (i j m : Int) (w : World) (hT : Tab w) (hs : s.length = 32) (hx : x.length = 32) :
    Calls Tryd.prog 3 #[.agg (bv s), .agg #[.int .i64 i, .int .i64 j, .int .i64 m], .agg (bv x)] w fun e w' => e = .returned (.bool true) ∧ Below w.heap.size w w' := by
  by_cases h : 0 ≤ i ∧ i < 133 ∧ 0 ≤ j ∧ j ≤ 3 ∧ j ≤ m ∧ m ≤ 3
  · have := onetimeChains_yes s x i.toNat j.toNat (m - j).toNat w hT hs hx (by omega) (by omega)
    rwa [show ((i.toNat : Nat) : Int) = i from by omega, show ((j.toNat : Nat) : Int) = j from by omega, show ((j.toNat + (m - j).toNat : Nat) : Int) = m from by omega] at this
  · exact onetimeChains_no s x i j m w hs hx h
set_option maxRecDepth 100000 in
theorem onetimeChains_holds : Rows.OnetimeChainsCardSaid := onetimeChains.card_of_walk fun H enc W base v0 v1 v2 d0 d1 d2 p0 p1 p2 h0 k0 h1 k1 h2 k2 hsz hL => by
  obtain ⟨s, hs, rfl⟩ := open_bytes Tryd.underlying23 Tryd.underlying5 (by kernel_rfl) (by kernel_rfl) h0 k0
  obtain ⟨i, j, m, rfl, _⟩ := open_three Tryd.underlying25 rfl rfl rfl rfl rfl rfl Tryd.underlying3 (by kernel_rfl) (by kernel_rfl) h1 k1
  obtain ⟨x, hx, rfl⟩ := open_bytes Tryd.underlying23 Tryd.underlying5 (by kernel_rfl) (by kernel_rfl) h2 k2
  exact onetimeChains_walk s x i j m W (table_of hL) hs hx
#print axioms onetimeChains_holds
end Go.Proofs.YtkgdjddcnlkppaaDoor
