/- The reference's state: Sum, Save. -/
import Derived.Test.YtepcjdifjjombaaDoorLr
namespace Go.Proofs.YtepcjdifjjombaaDoor
open Go.RowKit Cop
set_option linter.unusedVariables false
set_option linter.unusedSimpArgs false
theorem rsv_cells {w : World} {g : Nat} {h : H8} {n : Int} {v : Value} {t : TypeId} (hc : w.heap[g]? = some (.cells (rsv h n v) t (0, 0))) : w.cell? ⟨g, 8, none⟩ = some (.int .i64 n) ∧ w.cell? ⟨g, 9, none⟩ = some v :=
  ⟨by rw [row_cell hc]; rfl, by rw [row_cell hc]; rfl⟩
theorem info_31 {l : List UInt8} (h : l.length = 32) : (Tryd.prog.info? 31).map (·.size) = some (bv l).size := by rw [bv_size, h]; kernel_rfl
set_option maxRecDepth 100000 in
set_option maxHeartbeats 4000000 in
theorem rsum_gen (D : List UInt8) (hD : D.length = 32) (h : H8) (n : Nat) (r : List UInt8) (v : Value) (w : World) (hR : Rd w v r.length 1 (bl r))
    (CE : ∀ w' v, Rd w' v r.length 1 (bl r) → Calls Tryd.prog 48 #[.agg (hv h), .int .i64 n, v] w' fun e w2 => e = .returned (.agg (bv D)) ∧ Below w'.heap.size w' w2) :
    Calls Tryd.prog 53 #[.agg (rsv h (n : Int) v)] w fun e w' => e = .returned (.agg (bv D)) ∧ Below w.heap.size w w' := by
  have HD := Lib.hid hD
  have CE := Lib.hid CE
  have HS0 := (Sep.start w).arg0 hR
  obtain ⟨A, c, rfl, hc, hm⟩ := hR.shape
  clear hR hD
  go_enter Tryd.func53, Tryd.ntmps53
  go_wp2_with (first | refine wl_bx HS0 rfl 62 _ rfl (rsv h (n : Int) (.slice A r.length c)) rfl ?_)
  intro g1 w1 HS1
  go_wp2_with (first | refine wl_al HS1 rfl 31 rfl (bv (List.replicate 32 0)) (by kernel_rfl) ?_)
  intro g2 w2 HS2
  clear HS0 HS1
  obtain ⟨c8, c9⟩ := rsv_cells (HS2.row 1 rfl)
  go_wp2_with (first | refine wl_ldx rfl 23 _ rfl (.pointer (some ⟨g1, 0, none⟩)) rfl _ (load_mid (HS2.row 1 rfl) 0 (hv h) (rsv_h h _ _) 23 Tryd.underlying23 rfl info_h8) ?_)
  have hrd := HS2.rd 2 rfl
  (with_reducible refine Calls.mono (CE.out w2 _ hrd) ?_)
  rintro e w3 ⟨rfl, b3⟩
  have HS3 := HS2.keep b3
  clear HS2 c8 c9 hrd
  go_wp2_with (first | refine wl_st HS3 0 rfl rfl 31 _ _ rfl rfl (cs := bv D) rfl (info_31 HD.out) (by rw [bv_size, bv_size, HD.out]; rfl) (bv_one _) ?_)
  intro w4 HS4
  go_wp2
  exact ret_row rfl rfl g2 rfl 31 (bv D) (0, 0) _ (HS4.row 0 rfl) Tryd.underlying31 rfl (info_31 HD.out) ⟨rfl, HS4.hb⟩
/-- The reference's Sum. -/
theorem rsum_b (h : H8) (n : Nat) (r : List UInt8) (v : Value) (w : World) (hR : Rd w v r.length 1 (bl r)) (hn : n ≤ 2305843009213693951) (hr : r.length ≤ 140737488355000) :
    Calls Tryd.prog 53 #[.agg (rsv h (n : Int) v)] w fun e w' => e = .returned (.agg (bv (endOf h n r))) ∧ Below w.heap.size w w' :=
  rsum_gen _ (endOf_length h n r) h n r v w hR fun w' v hR => end_b h n r v w' hR hn hr
set_option maxRecDepth 100000 in
set_option maxHeartbeats 4000000 in
theorem rsave_gen (W NB Z : List UInt8) (hW : W.length = 32) (hNB : NB.length = 8) (h : H8) (n : Nat) (r : List UInt8) (v : Value) (w : World) (hR : Rd w v r.length 1 (bl r)) (hr : r.length ≤ 1000) (hn : n < 9223372036854775808) (hZ : (W ++ NB) ++ r = Z)
    (CW : ∀ w, Calls Tryd.prog 60 #[.agg (hv h)] w fun e w' => ∃ x, e = .returned x ∧ Below w.heap.size w w' ∧ w'.ownsRow w.heap.size 5 1 x 32 (bl W))
    (CN : ∀ w, Calls Tryd.prog 61 #[.int .u64 n, .int .i64 8] w fun e w' => ∃ x, e = .returned x ∧ Below w.heap.size w w' ∧ w'.ownsRow w.heap.size 5 1 x 8 (bl NB)) :
    Calls Tryd.prog 54 #[.agg (rsv h (n : Int) v)] w fun e w' => ∃ x, e = .returned x ∧ Below w.heap.size w w' ∧ Ow w' w.heap.size 5 1 x Z.length (bl Z) := by
  have CW := Lib.hid CW
  have CN := Lib.hid CN
  have HZ := Lib.hid hZ
  have HZL := Lib.hid (show 40 + r.length = Z.length by rw [← hZ, List.length_append, List.length_append, hW, hNB])
  have HS0 := (Sep.start w).arg0 hR
  obtain ⟨A, c, rfl, hc, hm⟩ := hR.shape
  have HWI := Lib.hid (show IntKind.u64.wrap (n : Int) = (n : Int) by rw [IntKind.wrap_u64]; omega)
  clear hR hZ
  go_enter Tryd.func54, Tryd.ntmps54
  go_wp2_with (first | refine wl_bx HS0 rfl 62 _ rfl (rsv h (n : Int) (.slice A r.length c)) rfl ?_)
  intro g1 w1 HS1
  clear HS0
  go_wp2
  refine Cop.region_ord (fun w' => Sep w.heap.size w w' [.row g1 (rsv h (n : Int) (.slice A r.length c)) 62, .rd (.slice A r.length c) r.length 1 (bl r)]) 11 (.take 0 (.take 1 (.take 3 (.take 4 (.take 5 (.take 8 (.take 9 (.run 2 (.run 6 (.run 7 (.run 10 (.take 11 Cop.Ord.fin)))))))))))) (by kernel_rfl) (by kernel_rfl) (fun _ _ d _ _ h => by cases d <;> exact h) ?_
  intro wa hda
  have HSa := HS1.keep hda
  clear HS1
  (repeat (first | (refine Cop.og_skip rfl rfl HSa _ (by (simp only [Act.put, List.setIfInBounds_toArray, List.set_cons_succ, List.set_cons_zero]; rfl)) ?_) | (refine Cop.og_ld rfl rfl HSa 23 _ rfl (.pointer (some ⟨g1, 0, none⟩)) rfl _ (fun w9 h9 => load_mid (h9.row 0 rfl) 0 (hv h) (rsv_h h _ _) 23 Tryd.underlying23 rfl info_h8) _ (by (simp only [Act.put, List.setIfInBounds_toArray, List.set_cons_succ, List.set_cons_zero]; rfl)) ?_) | (refine Cop.og_take rfl rfl HSa ?_; apply Exists.intro; refine ⟨fun w9 h9 => ?_, _, by (simp only [Act.put, List.setIfInBounds_toArray, List.set_cons_succ, List.set_cons_zero]; rfl), ?_⟩; (obtain ⟨c8, c9⟩ := rsv_cells (h9.row 0 rfl); have e1 := HWI.out; go_simp; with_reducible rfl))))
  refine Cop.og_run rfl rfl ?_
  refine ow_call_ex 60 _ (fun x w' => Below wa.heap.size wa w' ∧ w'.ownsRow wa.heap.size 5 1 x 32 (bl W)) (by go_simp) ((CW.out wa).mono fun e w' ⟨x, h1, h2⟩ => ⟨x, h1, h2⟩) ?_
  rintro x3 wb ⟨b3, o3⟩
  have HSb := HSa.madeRow b3 o3
  clear HSa o3
  refine ⟨fun _ => HSb.tail, ?_⟩
  have HTb : Sep w.heap.size w wb [.row g1 (rsv h (n : Int) (.slice A r.length c)) 62, .rd (.slice A r.length c) r.length 1 (bl r)] := HSb.tail
  (repeat (first | (refine Cop.og_skip rfl rfl HTb _ (by (simp only [Act.put, List.setIfInBounds_toArray, List.set_cons_succ, List.set_cons_zero]; rfl)) ?_) | (refine Cop.og_ld rfl rfl HTb 23 _ rfl (.pointer (some ⟨g1, 0, none⟩)) rfl _ (fun w9 h9 => load_mid (h9.row 0 rfl) 0 (hv h) (rsv_h h _ _) 23 Tryd.underlying23 rfl info_h8) _ (by (simp only [Act.put, List.setIfInBounds_toArray, List.set_cons_succ, List.set_cons_zero]; rfl)) ?_) | (refine Cop.og_take rfl rfl HTb ?_; apply Exists.intro; refine ⟨fun w9 h9 => ?_, _, by (simp only [Act.put, List.setIfInBounds_toArray, List.set_cons_succ, List.set_cons_zero]; rfl), ?_⟩; (obtain ⟨c8, c9⟩ := rsv_cells (h9.row 0 rfl); have e1 := HWI.out; go_simp; with_reducible rfl))))
  refine Cop.og_run rfl rfl ?_
  refine ow_call_ex 61 _ (fun x w' => Below wb.heap.size wb w' ∧ w'.ownsRow wb.heap.size 5 1 x 8 (bl NB)) (by go_simp) ((CN.out wb).mono fun e w' ⟨x, h1, h2⟩ => ⟨x, h1, h2⟩) ?_
  rintro x4 wc ⟨b4, o4⟩
  have HSc := HSb.madeRow b4 o4
  clear HSb HTb o4
  refine ⟨fun _ => HSc.tail.tail, ?_⟩
  have HTc : Sep w.heap.size w wc [.row g1 (rsv h (n : Int) (.slice A r.length c)) 62, .rd (.slice A r.length c) r.length 1 (bl r)] := HSc.tail.tail
  (repeat (first | (refine Cop.og_skip rfl rfl HTc _ (by (simp only [Act.put, List.setIfInBounds_toArray, List.set_cons_succ, List.set_cons_zero]; rfl)) ?_) | (refine Cop.og_ld rfl rfl HTc 23 _ rfl (.pointer (some ⟨g1, 0, none⟩)) rfl _ (fun w9 h9 => load_mid (h9.row 0 rfl) 0 (hv h) (rsv_h h _ _) 23 Tryd.underlying23 rfl info_h8) _ (by (simp only [Act.put, List.setIfInBounds_toArray, List.set_cons_succ, List.set_cons_zero]; rfl)) ?_) | (refine Cop.og_take rfl rfl HTc ?_; apply Exists.intro; refine ⟨fun w9 h9 => ?_, _, by (simp only [Act.put, List.setIfInBounds_toArray, List.set_cons_succ, List.set_cons_zero]; rfl), ?_⟩; (obtain ⟨c8, c9⟩ := rsv_cells (h9.row 0 rfl); have e1 := HWI.out; go_simp; with_reducible rfl))))
  refine Cop.og_run rfl rfl ?_
  refine ow_apb (n := 32) (m := 8) (xs := W) (cs := NB) HSc 1 rfl rfl (HSc.own 0 rfl).rd rfl rfl 40 (W ++ NB) rfl rfl (by decide) ?_
  intro x5 wd HSd _
  refine ⟨fun _ => HSd.tail.tail, ?_⟩
  have HTd : Sep w.heap.size w wd [.row g1 (rsv h (n : Int) (.slice A r.length c)) 62, .rd (.slice A r.length c) r.length 1 (bl r)] := HSd.tail.tail
  (repeat (first | (refine Cop.og_skip rfl rfl HTd _ (by (simp only [Act.put, List.setIfInBounds_toArray, List.set_cons_succ, List.set_cons_zero]; rfl)) ?_) | (refine Cop.og_ld rfl rfl HTd 23 _ rfl (.pointer (some ⟨g1, 0, none⟩)) rfl _ (fun w9 h9 => load_mid (h9.row 0 rfl) 0 (hv h) (rsv_h h _ _) 23 Tryd.underlying23 rfl info_h8) _ (by (simp only [Act.put, List.setIfInBounds_toArray, List.set_cons_succ, List.set_cons_zero]; rfl)) ?_) | (refine Cop.og_take rfl rfl HTd ?_; apply Exists.intro; refine ⟨fun w9 h9 => ?_, _, by (simp only [Act.put, List.setIfInBounds_toArray, List.set_cons_succ, List.set_cons_zero]; rfl), ?_⟩; (obtain ⟨c8, c9⟩ := rsv_cells (h9.row 0 rfl); have e1 := HWI.out; go_simp; with_reducible rfl))))
  refine Cop.og_run rfl rfl ?_
  refine ow_apb (n := 40) (xs := W ++ NB) HSd 1 rfl rfl (HSd.rd 3 rfl) rfl rfl Z.length Z HZL.out HZ.out (by have := HZL.out; omega) ?_
  intro x6 we HSe _
  refine ⟨fun _ => HSe.tail.tail, ?_⟩
  have HTe : Sep w.heap.size w we [.row g1 (rsv h (n : Int) (.slice A r.length c)) 62, .rd (.slice A r.length c) r.length 1 (bl r)] := HSe.tail.tail
  (repeat (first | (refine Cop.og_skip rfl rfl HTe _ (by (simp only [Act.put, List.setIfInBounds_toArray, List.set_cons_succ, List.set_cons_zero]; rfl)) ?_) | (refine Cop.og_take rfl rfl HTe ?_; apply Exists.intro; refine ⟨fun w9 h9 => ?_, _, by (simp only [Act.put, List.setIfInBounds_toArray, List.set_cons_succ, List.set_cons_zero]; rfl), ?_⟩; (go_simp; with_reducible rfl))))
  refine og_fin ?_
  go_wp2
  go_ret
  exact ⟨_, rfl, HSe.hb, HSe.own 1 rfl⟩
end Go.Proofs.YtepcjdifjjombaaDoor
