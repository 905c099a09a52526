/- extract.LeafPreimage, extract.Preimage. -/
import Derived.Test.YtcjnheabkdalbaaCy
namespace Go.Proofs.Ytcjnheabkdalbaa
open Go.RowKit Cop
set_option linter.unusedVariables false
set_option linter.unusedSimpArgs false
section
variable {P : Program}
theorem ow_call_own {w0 w : World} {B : Nat} {R : List Pc} {o : Oper} {a : Act} {K : Act → World → Prop} {Q : Exit → Act → World → Prop} (HS : Sep B w0 w R) (f : FuncId) (args : Array Value) {e : TypeId} {size n : Nat} {xs : List Value} (hr : (execOp a.eval o).run P w = .ok (.enter f args) w)
    (hc : Calls P f args w fun e' w' => ∃ v, e' = .returned v ∧ Below w.heap.size w w' ∧ Ow w' w.heap.size e size v n xs) (h : ∀ v w', Below w.heap.size w w' → Sep B w0 w' (.own v e size n xs :: R) → K (a.put o.dst v) w') : o.wp P a w K Q :=
  ow_call_ex f args (fun v w' => Below w.heap.size w w' ∧ Ow w' w.heap.size e size v n xs) hr (hc.mono fun e' w' ⟨v, h1, h2, h3⟩ => ⟨v, h1, h2, h3⟩) fun v w' ⟨h1, h2⟩ => h v w' h1 (HS.made h1 h2)
end
set_option maxRecDepth 100000 in
set_option maxHeartbeats 4000000 in
theorem leafpre_a (l : List UInt8) (v : Value) (w : World) (hR : Rd w v l.length 1 (bl l)) (hl : l.length ≤ 140737488351232) :
    Calls Try.prog 20 #[v] w fun e w' => ∃ x, e = .returned x ∧ Below w.heap.size w w' ∧ Ow w' w.heap.size 5 1 x (0 :: l).length (bl (0 :: l)) := by
  have HS0 := (Sep.start w).arg0 hR
  obtain ⟨A, c, rfl, hc, hcm⟩ := hR.shape
  have CC := Lib.hid (fun (w' : World) (vs : Value) (v0 : Value) (hR : Rd w' vs 2 1 [v0, .slice A l.length c]) (h0 : Rd w' v0 1 1 (bl [0])) (h1 : Rd w' (.slice A l.length c) l.length 1 (bl l)) =>
    concat_bytes [(v0, [0]), (.slice A l.length c, l)] vs w' hR (by intro p hp; rcases List.mem_cons.1 hp with rfl | hp; exact h0; simp at hp; subst hp; exact h1) (by simp [allB]; omega))
  simp only [show ∀ v0 : Value, allB [(v0, [0]), (.slice A l.length c, l)] = 0 :: l from fun v0 => by simp [allB]] at CC
  have hcl : (0 :: l).length ≤ 140737488351233 := by simp; omega
  obtain ⟨M, hM⟩ : ∃ m, 0 :: l = m := ⟨_, rfl⟩
  rw [hM] at CC ⊢
  clear hR hM hcl
  go_enter Try.func20, Try.ntmps20
  go_wp2_with (first | refine wl_bs HS0 rfl 33 5 1 1 _ rfl (bl [0]) (.int .u8 0) Try.underlying33 (by kernel_rfl) (by decide) (by decide) (by kernel_rfl) rfl ?_)
  intro g1 w1 HS1
  go_wp2_with (first | refine wl_bs HS1 rfl 82 33 2 1 _ rfl [.slice (some ⟨g1, 0, none⟩) 1 1, .slice A l.length c] (.slice none 0 0) Try.underlying82 (by kernel_rfl) (by decide) (by decide) (by kernel_rfl) rfl ?_)
  intro g2 w2 HS2
  go_wp2_with fail
  (with_reducible refine Calls.mono (CC.out _ _ _ (HS2.own 0 rfl).rd (HS2.own 1 rfl).rd (HS2.rd 2 rfl)) ?_)
  rintro e w3 ⟨v3, rfl, b3, o3⟩
  have HS3 := HS2.made b3 o3
  obtain ⟨A3, c3, rfl, _⟩ := (HS3.own 0 rfl).sl
  go_wp2
  go_ret
  exact ⟨_, rfl, HS3.hb, HS3.own 0 rfl⟩
set_option maxRecDepth 100000 in
set_option maxHeartbeats 4000000 in
theorem preimage_a (l r : List UInt8) (w : World) (hl : l.length = 32) (hr : r.length = 32) :
    Calls Try.prog 21 #[.agg (bv l), .agg (bv r)] w fun e w' => ∃ x, e = .returned x ∧ Below w.heap.size w w' ∧ Ow w' w.heap.size 5 1 x (1 :: (l ++ r)).length (bl (1 :: (l ++ r))) := by
  have HS0 := Sep.start w
  have CC := Lib.hid (fun (w' : World) (vs v0 v1 v2 : Value) (hR : Rd w' vs 3 1 [v0, v1, v2]) (h0 : Rd w' v0 1 1 (bl [1])) (h1 : Rd w' v1 l.length 1 (bl l)) (h2 : Rd w' v2 r.length 1 (bl r)) =>
    concat_bytes [(v0, [1]), (v1, l), (v2, r)] vs w' hR (by intro p hp; rcases List.mem_cons.1 hp with rfl | hp; exact h0; rcases List.mem_cons.1 hp with rfl | hp; exact h1; simp at hp; subst hp; exact h2) (by simp [allB]; omega))
  simp only [show ∀ v0 v1 v2 : Value, allB [(v0, [1]), (v1, l), (v2, r)] = 1 :: (l ++ r) from fun v0 v1 v2 => by simp [allB], hl, hr] at CC
  have HSL := Lib.hid (fun (g : Nat) (W : World) => run_arr_all (P := Try.prog) W Try.underlying23 info_u8' g)
  obtain ⟨M, hM⟩ : ∃ m, 1 :: (l ++ r) = m := ⟨_, rfl⟩
  rw [hM] at CC ⊢
  have HLL := Lib.hid hl
  have HRL := Lib.hid hr
  clear hM hl hr
  go_enter Try.func21, Try.ntmps21
  go_wp2_with (first | refine wl_bx HS0 rfl 23 _ rfl (bv l) rfl ?_)
  intro g1 w1 HS1
  go_wp2_with (first | refine wl_bx HS1 rfl 23 _ rfl (bv r) rfl ?_)
  intro g2 w2 HS2
  clear HS0 HS1
  go_wp2
  refine Cop.region_ordw (fun w' => Sep w.heap.size w w' [.row g2 (bv r) 23, .row g1 (bv l) 23]) 5 (.take 1 (.take 2 (.run 0 (.run 3 (.run 4 (.take 5 Cop.Ord.fin)))))) (by kernel_rfl) (by kernel_rfl) (fun _ _ d _ _ h => by cases d <;> exact h) ?_
  intro w3 hd3
  have HSa := HS2.keep hd3
  clear HS2
  (repeat (first | (refine Cop.ogw_skip rfl rfl HSa _ (by (simp only [Act.put, List.setIfInBounds_toArray, List.set_cons_succ, List.set_cons_zero]; rfl)) ?_) | (refine Cop.ogw_take rfl rfl HSa ?_; apply Exists.intro; refine ⟨fun w9 h9 => ?_, _, by (simp only [Act.put, List.setIfInBounds_toArray, List.set_cons_succ, List.set_cons_zero]; rfl), ?_⟩; (have s1 := HSL.out g1 w9; have s2 := HSL.out g2 w9; go_simp; with_reducible rfl))))
  refine Cop.ogw_run rfl rfl ?_
  refine ow_bs HSa 33 5 1 1 _ rfl (bl [1]) (.int .u8 0) Try.underlying33 (by kernel_rfl) (by decide) (by decide) (by kernel_rfl) rfl ?_
  intro g4 w4 HSb
  refine ⟨_, fun _ h => h, fun _ => HSb.tail, ?_⟩
  refine Cop.ogw_run rfl rfl ?_
  refine ow_bs HSb 82 33 3 1 _ rfl [.slice (some ⟨g4, 0, none⟩) 1 1, .slice (some ⟨g1, 0, none⟩) 32 32, .slice (some ⟨g2, 0, none⟩) 32 32] (.slice none 0 0) Try.underlying82 (by kernel_rfl) (by decide) (by decide) (by kernel_rfl) rfl ?_
  intro g5 w5 HSc
  refine ⟨_, fun _ h => h, fun _ => HSc.tail.tail, ?_⟩
  refine Cop.ogw_run rfl rfl ?_
  refine ow_call_own HSc 45 _ (by go_simp) (CC.out _ _ _ _ _ (HSc.own 0 rfl).rd (HSc.own 1 rfl).rd (Sep.rdRow HSc 3 rfl 32 HLL.out (by decide)) (Sep.rdRow HSc 2 rfl 32 HRL.out (by decide))) ?_
  intro v6 w6 _ HSd
  refine ⟨_, fun _ h => h, fun _ => HSd.tail.tail.tail, ?_⟩
  have HSe : Sep w.heap.size w w6 [.row g2 (bv r) 23, .row g1 (bv l) 23] := HSd.tail.tail.tail
  (repeat (first | (refine Cop.ogw_skip rfl rfl HSe _ (by (simp only [Act.put, List.setIfInBounds_toArray, List.set_cons_succ, List.set_cons_zero]; rfl)) ?_) | (refine Cop.ogw_take rfl rfl HSe ?_; apply Exists.intro; refine ⟨fun w9 h9 => ?_, _, by (simp only [Act.put, List.setIfInBounds_toArray, List.set_cons_succ, List.set_cons_zero]; rfl), ?_⟩; (go_simp; with_reducible rfl))))
  refine ogw_fin ?_
  obtain ⟨A6, c6, rfl, _⟩ := (HSd.own 0 rfl).sl
  go_wp2
  go_ret
  exact ⟨_, rfl, HSd.hb, HSd.own 0 rfl⟩
end Go.Proofs.Ytcjnheabkdalbaa
