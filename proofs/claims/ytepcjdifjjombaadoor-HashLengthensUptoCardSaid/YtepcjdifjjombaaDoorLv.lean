/- stands: does a state tell what the document's does? -/
import Derived.Test.YtepcjdifjjombaaDoorLt
import Derived.Test.YtepcjdifjjombaaDoorSpq
import Derived.Test.YtepcjdifjjombaaDoorKn
import Derived.Test.YtepcjdifjjombaaDoorOw
namespace Go.Proofs.YtepcjdifjjombaaDoor
open Go.RowKit Cop
set_option linter.unusedVariables false
set_option linter.unusedSimpArgs false
theorem names_02 (w : World) : Calls Tryd.prog 37 #[] w fun e w' => e = .returned (.bool true) ∧ w = w' := by
  go_enter Tryd.func37, Tryd.ntmps37
  go_wp2
  go_ret
  exact ⟨rfl, rfl⟩
set_option maxRecDepth 100000 in
set_option maxHeartbeats 8000000 in
theorem stands_gen (D SV : List UInt8) (hD : D.length = 32) {B : Nat} {w0 w : World} {R : List Pc} (i j k : Nat) {g : Nat} {h : H8} {n : Nat} {v vr : Value} {r : List UInt8}
    (hi : R[i]? = some (.row g (stv true h n v) 50)) (hj : R[j]? = some (.own v 5 1 r.length (bl r))) (hk : R[k]? = some (.rd vr r.length 1 (bl r)))
    (hr : r.length < 64) (hn : n ≤ 2305843009213693951) (hSL : SV.length = 40 + r.length)
    (CV : ∀ (R' : List Pc) (w' : World) (i j : Nat), R'[i]? = some (.row g (stv true h n v) 50) → R'[j]? = some (.own v 5 1 r.length (bl r)) → Sep B w0 w' R' →
      Calls Tryd.prog 30 #[.pointer (some ⟨g, 0, none⟩)] w' fun e w2 => ∃ x, e = .returned x ∧ Sep B w0 w2 (.own x 5 1 SV.length (bl SV) :: R'))
    (CS : ∀ (R' : List Pc) (w' : World) (i j : Nat), R'[i]? = some (.row g (stv true h n v) 50) → R'[j]? = some (.own v 5 1 r.length (bl r)) → Sep B w0 w' R' →
      Calls Tryd.prog 24 #[.pointer (some ⟨g, 0, none⟩)] w' fun e w2 => e = .returned (.agg (bv D)) ∧ Sep B w0 w2 R')
    (CRS : ∀ w', Rd w' vr r.length 1 (bl r) → Calls Tryd.prog 53 #[.agg (rsv h (n : Int) vr)] w' fun e w2 => e = .returned (.agg (bv D)) ∧ Below w'.heap.size w' w2)
    (CRV : ∀ w', Rd w' vr r.length 1 (bl r) → Calls Tryd.prog 54 #[.agg (rsv h (n : Int) vr)] w' fun e w2 => ∃ x, e = .returned x ∧ Below w'.heap.size w' w2 ∧ Ow w2 w'.heap.size 5 1 x SV.length (bl SV))
    (HS : Sep B w0 w R) :
    Calls Tryd.prog 34 #[.pointer (some ⟨g, 0, none⟩), .agg (rsv h (n : Int) vr)] w fun e w' => e = .returned (.bool true) ∧ Sep B w0 w' R := by
  have HI := Lib.hid hi
  have HJ := Lib.hid hj
  have HK := Lib.hid hk
  have CV := Lib.hid CV
  have CS := Lib.hid CS
  have CRS := Lib.hid CRS
  have CRV := Lib.hid CRV
  obtain ⟨Ar, cr, rfl, _⟩ := (HS.rd k hk).shape
  have HQ := Lib.hid (fun w' : World => run_equal_bv (P := Tryd.prog) w' (d := 9998) Tryd.underlying32 Tryd.underlying5 (by kernel_rfl) D D hD hD)
  rw [decide_eq_true (rfl : D = D)] at HQ
  have hSL2 : SV.length ≤ 9223372036854775807 := by omega
  clear hi hj hk hSL
  go_enter Tryd.func34, Tryd.ntmps34
  go_wp2_with (first | refine wl_bx HS rfl 62 _ rfl (rsv h (n : Int) (.slice Ar r.length cr)) rfl ?_)
  intro g1 w1 HS1
  clear HS
  go_wp2_with fail
  (with_reducible refine Calls.mono (CV.out _ w1 (i + 1) (j + 1) HI.out HJ.out HS1) ?_)
  rintro e w2 ⟨x, rfl, HS2⟩
  clear HS1
  go_wp2_with fail
  (with_reducible refine Calls.mono (CV.out _ w2 (i + 2) (j + 2) HI.out HJ.out HS2) ?_)
  rintro e w3 ⟨y, rfl, HS3⟩
  clear HS2
  obtain ⟨Ay, cy, rfl, _⟩ := (HS3.own 0 rfl).sl
  obtain ⟨Ax, cx, rfl, _⟩ := (HS3.own 1 rfl).sl
  go_wp2
  refine Cop.region_ordw (fun w' => Sep B w0 w' (.own (.slice Ay SV.length cy) 5 1 SV.length (bl SV) :: .own (.slice Ax SV.length cx) 5 1 SV.length (bl SV) :: .row g1 (rsv h (n : Int) (.slice Ar r.length cr)) 62 :: R)) 20 (.take 0 (.take 2 (.run 1 (.run 3 (.take 4 (.take 5 (.take 6 (.take 8 (.take 9 (.run 7 (.take 10 (.take 11 (.take 12 (.take 13 (.take 14 (.take 15 (.run 16 (.take 17 (.take 18 (.take 19 (.take 20 Cop.Ord.fin))))))))))))))))))))) (by kernel_rfl) (by kernel_rfl) (fun _ _ d _ _ h => by cases d <;> exact h) ?_
  intro wa hda
  have HSa := HS3.keep hda
  clear HS3
  (repeat (first | (refine Cop.ogw_skip rfl rfl HSa _ (by (simp only [Act.put, List.setIfInBounds_toArray, List.set_cons_succ, List.set_cons_zero]; rfl)) ?_) | (refine Cop.ogw_ld rfl rfl HSa 62 _ rfl (.pointer (some ⟨g1, 0, none⟩)) rfl _ (fun w9 h9 => load_row (h9.row 2 rfl) 62 Tryd.underlying62 rfl (rsv_info _ _ _)) _ (by (simp only [Act.put, List.setIfInBounds_toArray, List.set_cons_succ, List.set_cons_zero]; rfl)) ?_) | (refine Cop.ogw_take rfl rfl HSa ?_; apply Exists.intro; refine ⟨fun w9 h9 => ?_, _, by (simp only [Act.put, List.setIfInBounds_toArray, List.set_cons_succ, List.set_cons_zero]; rfl), ?_⟩; (obtain ⟨c8, c9⟩ := rsv_cells (h9.row 2 rfl); have q := HQ.out w9; have s1 : (convert 30 9 (.slice Ax SV.length cx)).run Tryd.prog w9 = .ok (.string ⟨SV.toArray⟩) w9 := Rd.string (P := Tryd.prog) (h9.own 1 rfl).rd Tryd.underlying30 Tryd.underlying5 Tryd.underlying9; go_simp; with_reducible rfl))))
  refine Cop.ogw_run rfl rfl ?_
  refine ow_call 24 _ _ (fun w' => Sep B w0 w' (.own (.slice Ay SV.length cy) 5 1 SV.length (bl SV) :: .own (.slice Ax SV.length cx) 5 1 SV.length (bl SV) :: .row g1 (rsv h (n : Int) (.slice Ar r.length cr)) 62 :: R)) (by go_simp) (CS.out _ wa (i + 3) (j + 3) HI.out HJ.out HSa) ?_
  intro wb HSb
  clear HSa
  refine ⟨_, fun _ h => h, fun _ => HSb, ?_⟩
  (repeat (first | (refine Cop.ogw_skip rfl rfl HSb _ (by (simp only [Act.put, List.setIfInBounds_toArray, List.set_cons_succ, List.set_cons_zero]; rfl)) ?_) | (refine Cop.ogw_ld rfl rfl HSb 62 _ rfl (.pointer (some ⟨g1, 0, none⟩)) rfl _ (fun w9 h9 => load_row (h9.row 2 rfl) 62 Tryd.underlying62 rfl (rsv_info _ _ _)) _ (by (simp only [Act.put, List.setIfInBounds_toArray, List.set_cons_succ, List.set_cons_zero]; rfl)) ?_) | (refine Cop.ogw_take rfl rfl HSb ?_; apply Exists.intro; refine ⟨fun w9 h9 => ?_, _, by (simp only [Act.put, List.setIfInBounds_toArray, List.set_cons_succ, List.set_cons_zero]; rfl), ?_⟩; (obtain ⟨c8, c9⟩ := rsv_cells (h9.row 2 rfl); have q := HQ.out w9; have s1 : (convert 30 9 (.slice Ax SV.length cx)).run Tryd.prog w9 = .ok (.string ⟨SV.toArray⟩) w9 := Rd.string (P := Tryd.prog) (h9.own 1 rfl).rd Tryd.underlying30 Tryd.underlying5 Tryd.underlying9; go_simp; with_reducible rfl))))
  refine Cop.ogw_run rfl rfl ?_
  have hrd := HSb.rd (k + 3) HK.out
  refine ow_call 53 _ _ (fun w' => Below wb.heap.size wb w') (by go_simp) (CRS.out wb hrd) ?_
  intro wc bc
  have HSc := HSb.keep bc
  clear HSb hrd
  refine ⟨_, fun _ h => h, fun _ => HSc, ?_⟩
  (repeat (first | (refine Cop.ogw_skip rfl rfl HSc _ (by (simp only [Act.put, List.setIfInBounds_toArray, List.set_cons_succ, List.set_cons_zero]; rfl)) ?_) | (refine Cop.ogw_ld rfl rfl HSc 62 _ rfl (.pointer (some ⟨g1, 0, none⟩)) rfl _ (fun w9 h9 => load_row (h9.row 2 rfl) 62 Tryd.underlying62 rfl (rsv_info _ _ _)) _ (by (simp only [Act.put, List.setIfInBounds_toArray, List.set_cons_succ, List.set_cons_zero]; rfl)) ?_) | (refine Cop.ogw_take rfl rfl HSc ?_; apply Exists.intro; refine ⟨fun w9 h9 => ?_, _, by (simp only [Act.put, List.setIfInBounds_toArray, List.set_cons_succ, List.set_cons_zero]; rfl), ?_⟩; (obtain ⟨c8, c9⟩ := rsv_cells (h9.row 2 rfl); have q := HQ.out w9; have s1 : (convert 30 9 (.slice Ax SV.length cx)).run Tryd.prog w9 = .ok (.string ⟨SV.toArray⟩) w9 := Rd.string (P := Tryd.prog) (h9.own 1 rfl).rd Tryd.underlying30 Tryd.underlying5 Tryd.underlying9; go_simp; with_reducible rfl))))
  refine Cop.ogw_run rfl rfl ?_
  refine ow_call 25 _ _ (fun w' => w' = wc) (by go_simp) (len_S HSc (i + 3) HI.out) ?_
  rintro wd rfl
  refine ⟨_, fun _ h => h, fun _ => HSc, ?_⟩
  (repeat (first | (refine Cop.ogw_skip rfl rfl HSc _ (by (simp only [Act.put, List.setIfInBounds_toArray, List.set_cons_succ, List.set_cons_zero]; rfl)) ?_) | (refine Cop.ogw_ld rfl rfl HSc 62 _ rfl (.pointer (some ⟨g1, 0, none⟩)) rfl _ (fun w9 h9 => load_row (h9.row 2 rfl) 62 Tryd.underlying62 rfl (rsv_info _ _ _)) _ (by (simp only [Act.put, List.setIfInBounds_toArray, List.set_cons_succ, List.set_cons_zero]; rfl)) ?_) | (refine Cop.ogw_take rfl rfl HSc ?_; apply Exists.intro; refine ⟨fun w9 h9 => ?_, _, by (simp only [Act.put, List.setIfInBounds_toArray, List.set_cons_succ, List.set_cons_zero]; rfl), ?_⟩; (obtain ⟨c8, c9⟩ := rsv_cells (h9.row 2 rfl); have q := HQ.out w9; have s1 : (convert 30 9 (.slice Ax SV.length cx)).run Tryd.prog w9 = .ok (.string ⟨SV.toArray⟩) w9 := Rd.string (P := Tryd.prog) (h9.own 1 rfl).rd Tryd.underlying30 Tryd.underlying5 Tryd.underlying9; go_simp; with_reducible rfl))))
  refine Cop.ogw_run rfl rfl ?_
  have hrd := HSc.rd (k + 3) HK.out
  refine ow_call_ex 54 _ (fun x w' => Below wd.heap.size wd w' ∧ Ow w' wd.heap.size 5 1 x SV.length (bl SV)) (by go_simp) ((CRV.out wd hrd).mono fun e w' ⟨x, h1, h2⟩ => ⟨x, h1, h2⟩) ?_
  rintro z we ⟨be, oe⟩
  have HSe := HSc.made be oe
  obtain ⟨Az, cz, rfl, _⟩ := (HSe.own 0 rfl).sl
  clear HSc hrd oe be
  refine ⟨fun w' => Sep B w0 w' (.own (.slice Az SV.length cz) 5 1 SV.length (bl SV) :: .own (.slice Ay SV.length cy) 5 1 SV.length (bl SV) :: .own (.slice Ax SV.length cx) 5 1 SV.length (bl SV) :: .row g1 (rsv h (n : Int) (.slice Ar r.length cr)) 62 :: R), fun _ h => h.tail, fun _ => HSe, ?_⟩
  (repeat (first | (refine Cop.ogw_skip rfl rfl HSe _ (by (simp only [Act.put, List.setIfInBounds_toArray, List.set_cons_succ, List.set_cons_zero]; rfl)) ?_) | (refine Cop.ogw_ld rfl rfl HSe 62 _ rfl (.pointer (some ⟨g1, 0, none⟩)) rfl _ (fun w9 h9 => load_row (h9.row 3 rfl) 62 Tryd.underlying62 rfl (rsv_info _ _ _)) _ (by (simp only [Act.put, List.setIfInBounds_toArray, List.set_cons_succ, List.set_cons_zero]; rfl)) ?_) | (refine Cop.ogw_take rfl rfl HSe ?_; apply Exists.intro; refine ⟨fun w9 h9 => ?_, _, by (simp only [Act.put, List.setIfInBounds_toArray, List.set_cons_succ, List.set_cons_zero]; rfl), ?_⟩; (obtain ⟨c8, c9⟩ := rsv_cells (h9.row 3 rfl); have s1 : (convert 30 9 (.slice Ax SV.length cx)).run Tryd.prog w9 = .ok (.string ⟨SV.toArray⟩) w9 := Rd.string (P := Tryd.prog) (h9.own 2 rfl).rd Tryd.underlying30 Tryd.underlying5 Tryd.underlying9; have s2 : (convert 30 9 (.slice Az SV.length cz)).run Tryd.prog w9 = .ok (.string ⟨SV.toArray⟩) w9 := Rd.string (P := Tryd.prog) (h9.own 0 rfl).rd Tryd.underlying30 Tryd.underlying5 Tryd.underlying9; go_simp; with_reducible rfl))))
  refine ogw_fin ?_
  have HSf := HSe.tail.front 1
  clear HSe
  go_wp2_with fail
  refine (spoil_S HSf hSL2).mono ?_
  rintro e w5 ⟨rfl, HS5⟩
  clear HSf
  go_wp2
  refine Cop.region_ordw (fun w' => Sep B w0 w' (.own (.slice Ay SV.length cy) 5 1 SV.length (bl SV) :: .row g1 (rsv h (n : Int) (.slice Ar r.length cr)) 62 :: R)) 9 (.take 0 (.take 1 (.take 2 (.take 3 (.take 4 (.run 5 (.take 6 (.take 7 (.take 8 (.take 9 Cop.Ord.fin)))))))))) (by kernel_rfl) (by kernel_rfl) (fun _ _ d _ _ h => by cases d <;> exact h) ?_
  intro wf hdf
  have HSg := HS5.keep hdf
  clear HS5
  (repeat (first | (refine Cop.ogw_skip rfl rfl HSg _ (by (simp only [Act.put, List.setIfInBounds_toArray, List.set_cons_succ, List.set_cons_zero]; rfl)) ?_) | (refine Cop.ogw_ld rfl rfl HSg 62 _ rfl (.pointer (some ⟨g1, 0, none⟩)) rfl _ (fun w9 h9 => load_row (h9.row 1 rfl) 62 Tryd.underlying62 rfl (rsv_info _ _ _)) _ (by (simp only [Act.put, List.setIfInBounds_toArray, List.set_cons_succ, List.set_cons_zero]; rfl)) ?_) | (refine Cop.ogw_take rfl rfl HSg ?_; apply Exists.intro; refine ⟨fun w9 h9 => ?_, _, by (simp only [Act.put, List.setIfInBounds_toArray, List.set_cons_succ, List.set_cons_zero]; rfl), ?_⟩; (obtain ⟨c8, c9⟩ := rsv_cells (h9.row 1 rfl); have s1 : (convert 30 9 (.slice Ay SV.length cy)).run Tryd.prog w9 = .ok (.string ⟨SV.toArray⟩) w9 := Rd.string (P := Tryd.prog) (h9.own 0 rfl).rd Tryd.underlying30 Tryd.underlying5 Tryd.underlying9; go_simp; with_reducible rfl))))
  refine Cop.ogw_run rfl rfl ?_
  have hrd := HSg.rd (k + 2) HK.out
  refine ow_call_ex 54 _ (fun x w' => Below wf.heap.size wf w' ∧ Ow w' wf.heap.size 5 1 x SV.length (bl SV)) (by go_simp) ((CRV.out wf hrd).mono fun e w' ⟨x, h1, h2⟩ => ⟨x, h1, h2⟩) ?_
  rintro z wg ⟨bg, og⟩
  have HSh := HSg.made bg og
  obtain ⟨Az, cz, rfl, _⟩ := (HSh.own 0 rfl).sl
  clear HSg hrd og bg
  refine ⟨fun w' => Sep B w0 w' (.own (.slice Az SV.length cz) 5 1 SV.length (bl SV) :: .own (.slice Ay SV.length cy) 5 1 SV.length (bl SV) :: .row g1 (rsv h (n : Int) (.slice Ar r.length cr)) 62 :: R), fun _ h => h.tail, fun _ => HSh, ?_⟩
  (repeat (first | (refine Cop.ogw_skip rfl rfl HSh _ (by (simp only [Act.put, List.setIfInBounds_toArray, List.set_cons_succ, List.set_cons_zero]; rfl)) ?_) | (refine Cop.ogw_ld rfl rfl HSh 62 _ rfl (.pointer (some ⟨g1, 0, none⟩)) rfl _ (fun w9 h9 => load_row (h9.row 2 rfl) 62 Tryd.underlying62 rfl (rsv_info _ _ _)) _ (by (simp only [Act.put, List.setIfInBounds_toArray, List.set_cons_succ, List.set_cons_zero]; rfl)) ?_) | (refine Cop.ogw_take rfl rfl HSh ?_; apply Exists.intro; refine ⟨fun w9 h9 => ?_, _, by (simp only [Act.put, List.setIfInBounds_toArray, List.set_cons_succ, List.set_cons_zero]; rfl), ?_⟩; (obtain ⟨c8, c9⟩ := rsv_cells (h9.row 2 rfl); have s1 : (convert 30 9 (.slice Ay SV.length cy)).run Tryd.prog w9 = .ok (.string ⟨SV.toArray⟩) w9 := Rd.string (P := Tryd.prog) (h9.own 1 rfl).rd Tryd.underlying30 Tryd.underlying5 Tryd.underlying9; have s2 : (convert 30 9 (.slice Az SV.length cz)).run Tryd.prog w9 = .ok (.string ⟨SV.toArray⟩) w9 := Rd.string (P := Tryd.prog) (h9.own 0 rfl).rd Tryd.underlying30 Tryd.underlying5 Tryd.underlying9; go_simp; with_reducible rfl))))
  refine ogw_fin ?_
  go_wp2
  go_ret
  exact ⟨rfl, HSh.tail.tail.tail⟩
/-- A state that is the document's tells what it does. -/
theorem stands_a {B : Nat} {w0 w : World} {R : List Pc} (hTB : TabB B w0) (i j k : Nat) {g : Nat} {h : H8} {n : Nat} {v vr : Value} {r : List UInt8}
    (hi : R[i]? = some (.row g (stv true h n v) 50)) (hj : R[j]? = some (.own v 5 1 r.length (bl r))) (hk : R[k]? = some (.rd vr r.length 1 (bl r)))
    (hr : r.length < 64) (hn : n ≤ 2305843009213693951) (HS : Sep B w0 w R) :
    Calls Tryd.prog 34 #[.pointer (some ⟨g, 0, none⟩), .agg (rsv h (n : Int) vr)] w fun e w' => e = .returned (.bool true) ∧ Sep B w0 w' R :=
  stands_gen (endOf h n r) (savD h n r) (endOf_length h n r) i j k hi hj hk hr hn (savD_length h n r)
    (fun R' w' i j hi hj HS => save_S HS i j hi hj (by omega) (by omega))
    (fun R' w' i j hi hj HS => sumS_a B w0 g n v h r R' w' hTB hr hn i j hi hj HS)
    (fun w' hR => rsum_b h n r vr w' hR hn (by omega)) (fun w' hR => rsave_b h n r vr w' hR (by omega) (by omega)) HS
end Go.Proofs.YtepcjdifjjombaaDoor
