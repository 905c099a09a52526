/- The reference's state: Save, Write. -/
import Derived.Test.YtepcjdifjjombaaDoorLs
import Derived.Test.YtepcjdifjjombaaDoorSv
namespace Go.Proofs.YtepcjdifjjombaaDoor
open Go.RowKit Cop
set_option linter.unusedVariables false
set_option linter.unusedSimpArgs false
section
variable {P : Program} {w : World} {o : Oper} {a : Act}
theorem exec_bd9 (t : TypeId) (parts : Array (Nat × Operand)) (hop : o.op = .build t parts) (vs : Array (Nat × Value)) (hvs : (parts.map fun (i, x) => (i, a.eval x)) = vs) (v : Value) (hr : (Instr.build t vs).run P w = .ok v w) : (execOp a.eval o).run P w = .ok (.value v) w := by
  simp only [execOp, hop, hvs, Sem.run_bind, hr, Result.andThen_ok, Sem.run_pure]
end
/-- The reference's Save. -/
theorem rsave_b (h : H8) (n : Nat) (r : List UInt8) (v : Value) (w : World) (hR : Rd w v r.length 1 (bl r)) (hr : r.length ≤ 1000) (hn : n < 9223372036854775808) :
    Calls Tryd.prog 54 #[.agg (rsv h (n : Int) v)] w fun e w' => ∃ x, e = .returned x ∧ Below w.heap.size w w' ∧ Ow w' w.heap.size 5 1 x (savD h n r).length (bl (savD h n r)) :=
  rsave_gen (wb h.l) (be 8 n) _ (by rw [wb_length]; rfl) (be_length _ _) h n r v w hR hr hn rfl (fun w => words_b h w) (fun w => number_b n 8 w (by omega) (by decide))
theorem over_take : ∀ (k : Nat) (l : List UInt8), l.length = k → ∀ s : H8, over s (l.take (l.length / 64 * 64)) = over s l := by
  intro k
  induction k using Nat.strongRecOn with
  | ind k ih =>
    intro l hl s
    by_cases h : 64 ≤ l.length
    · have h2 : 64 ≤ (l.take (l.length / 64 * 64)).length := by rw [List.length_take]; omega
      rw [over_more s l h, over_more s _ h2, List.take_take, Nat.min_eq_left (by omega), List.drop_take]
      have := ih (l.length - 64) (by omega) (l.drop 64) (by rw [List.length_drop]) (compress s (l.take 64))
      rw [List.length_drop] at this
      rw [show l.length / 64 * 64 - 64 = (l.length - 64) / 64 * 64 from by omega]
      exact this
    · rw [show l.length / 64 * 64 = 0 from by omega, List.take_zero, over_small s l (by omega), over_small s [] (by decide)]
set_option maxRecDepth 100000 in
set_option maxHeartbeats 4000000 in
theorem rwrite_big (h : H8) (n : Nat) (A : Option Addr) (m c : Nat) (l : List UInt8) (v : Value) (w : World) (hR : Rd w v l.length 1 (bl l)) (hl : l.length ≤ 1000000000000000000) (hn0 : n ≤ 2305843009213693951) (hn : 2305843009213693951 < n + l.length) :
    Calls Tryd.prog 36 #[.agg (rsv h (n : Int) (.slice A m c)), v] w fun e w' => e = .returned (.tuple #[.agg (rsv h (n : Int) (.slice A m c)), .int .i64 3]) ∧ Below w.heap.size w w' := by
  have HS0 := (Sep.start w).arg0 hR
  obtain ⟨A2, c2, rfl, hc, hm⟩ := hR.shape
  have h1 : (2305843009213693951 : Int) - (n : Int) < (l.length : Int) := by omega
  clear hR
  go_enter Tryd.func36, Tryd.ntmps36
  go_wp2_with (first | refine wl_bx HS0 rfl 62 _ rfl (rsv h (n : Int) (.slice A m c)) rfl ?_)
  intro g1 w1 HS1
  go_wp2_with (first | refine wl_al HS1 rfl 62 rfl (rsv hzero 0 (.slice none 0 0)) (by kernel_rfl) ?_)
  intro g2 w2 HS2
  clear HS0 HS1
  obtain ⟨c8, c9⟩ := rsv_cells (HS2.row 1 rfl)
  go_wp2_with (first | refine wl_ld HS2 1 rfl rfl 62 _ rfl rfl Tryd.underlying62 rfl (rsv_info _ _ _) ?_ | refine wl_st HS2 0 rfl rfl 62 _ _ rfl rfl (cs := rsv h (n : Int) (.slice A m c)) rfl (rsv_info _ _ _) rfl (rsv_one _ _ _ _ _) ?_)
  intro w3 HS3
  go_wp2
  exact ret_row_tmp rfl rfl g2 rfl 62 (rsv h (n : Int) (.slice A m c)) (0, 0) _ (HS3.row 0 rfl) Tryd.underlying62 rfl (rsv_info _ _ _) (.int .i64 3) rfl ⟨rfl, HS3.hb⟩
set_option maxRecDepth 100000 in
set_option maxHeartbeats 8000000 in
theorem rwrite_gen (h H2 : H8) (n : Nat) (Ar : Option Addr) (cr : Nat) (r l ALL TT K : List UInt8) (v : Value) (w : World) (hr : Rd w (.slice Ar r.length cr) r.length 1 (bl r)) (hR : Rd w v l.length 1 (bl l)) (hrl : r.length < 64) (hl : l.length ≤ 140737488351232) (hn : n + l.length ≤ 2305843009213693951)
    (hA : r ++ l = ALL) (hK : ALL.take (ALL.length / 64 * 64) = K) (hT : ALL.drop (ALL.length / 64 * 64) = TT)
    (CO : ∀ w' v, Rd w' v K.length 1 (bl K) → Calls Tryd.prog 55 #[.agg (hv h), v] w' fun e w2 => e = .returned (.agg (hv H2)) ∧ Below w'.heap.size w' w2) :
    Calls Tryd.prog 36 #[.agg (rsv h (n : Int) (.slice Ar r.length cr)), v] w fun e w' => ∃ v', e = .returned (.tuple #[.agg (rsv H2 ((n + l.length : Nat) : Int) v'), .int .i64 0]) ∧ Below w.heap.size w w' ∧ Rd w' v' TT.length 1 (bl TT) ∧ ∀ b, rblk v' (bl TT) = some b → w.heap.size ≤ b := by
  have HA := Lib.hid hA
  have HAL := Lib.hid (show r.length + l.length = ALL.length by rw [← hA, List.length_append])
  have HKL := Lib.hid (show K.length = ALL.length / 64 * 64 by rw [← hK, List.length_take]; omega)
  have HK := Lib.hid hK
  have HT := Lib.hid hT
  have CO := Lib.hid CO
  have HS0 := ((Sep.start w).arg0 hr).arg0 hR
  obtain ⟨A2, c2, rfl, hc, hm⟩ := hR.shape
  have h1 : ¬ (2305843009213693951 : Int) - (n : Int) < (l.length : Int) := by omega
  clear hR hr hA hK hT
  go_enter Tryd.func36, Tryd.ntmps36
  go_wp2_with (first | refine wl_bx HS0 rfl 62 _ rfl (rsv h (n : Int) (.slice Ar r.length cr)) rfl ?_)
  intro g1 w1 HS1
  go_wp2_with (first | refine wl_al HS1 rfl 62 rfl (rsv hzero 0 (.slice none 0 0)) (by kernel_rfl) ?_)
  intro g2 w2 HS2
  clear HS0 HS1
  obtain ⟨c8, c9⟩ := rsv_cells (HS2.row 1 rfl)
  go_wp2_with (first | refine wl_bz HS2 rfl 30 5 1 rfl Tryd.underlying30 (by kernel_rfl) ?_)
  intro gz w3 HS3
  clear c8 c9
  obtain ⟨c8, c9⟩ := rsv_cells (HS3.row 2 rfl)
  go_wp2_with (first | refine wl_apb (xs := []) HS3 0 rfl rfl rfl (HS3.rd 4 rfl) rfl rfl r.length r (by omega) rfl (by omega) ?_)
  intro v4 w4 HS4 _
  obtain ⟨A4, c4, rfl, _⟩ := (HS4.own 0 rfl).sl
  go_wp2_with (first | refine wl_apb HS4 0 rfl rfl rfl (HS4.rd 3 rfl) rfl rfl ALL.length ALL HAL.out HA.out (by have := HAL.out; omega) ?_)
  intro v5 w5 HS5 _
  obtain ⟨A5, c5, rfl, _⟩ := (HS5.own 0 rfl).sl
  clear HS2 HS3 HS4 c8 c9
  obtain ⟨q, hq⟩ : ∃ q, ALL.length / 64 = q := ⟨_, rfl⟩
  have e1 : Int.tdiv (ALL.length : Int) 64 = (q : Int) := by rw [Int.tdiv_eq_ediv_of_nonneg (by omega)]; omega
  have e2 : (ALL.length : Int) / 64 = (q : Int) := by omega
  have hqa : q * 64 ≤ ALL.length := by omega
  have hqi : (q : Int) * 64 ≤ 140737488355328 := by have := HAL.out; omega
  have hqj : (0 : Int) ≤ (q : Int) * 64 := by omega
  rw [hq] at HKL HK HT
  clear hq
  obtain ⟨A6, c6, hc6, hm6, HR6, hb6, hs6⟩ := rd_to (HS5.own 0 rfl).rd Tryd.underlying30 info_u8' (q * 64) hqa
  obtain ⟨A7, c7, hc7, hm7, HR7, hb7, hs7⟩ := rd_from (HS5.own 0 rfl).rd Tryd.underlying30 info_u8' (q * 64) hqa
  rw [HK.out, HKL.out] at HR6
  rw [HT.out] at HR7 hb7 hs7 hc7
  rw [show ((q * 64 : Nat) : Int) = (q : Int) * 64 from by omega] at hs6 hs7
  have HBD := Lib.hid (fun W : World => run_build (P := Tryd.prog) W 62 #[(0, .agg (hv H2)), (1, .int .i64 ((n : Int) + (l.length : Int))), (2, .slice A7 TT.length c7)] (rsv H2 ((n : Int) + (l.length : Int)) (.slice A7 TT.length c7)) (by kernel_rfl))
  have HOWN := Lib.hid (HS5.own 0 rfl)
  have wr3 : IntKind.i64.wrap ((n : Int) + (l.length : Int)) = (n : Int) + (l.length : Int) := by rw [IntKind.wrap_i64]; omega
  clear hc6 hm6 hb6
  go_wp2
  refine Cop.region_ord (fun w' => Sep w.heap.size w w' [.own (.slice A5 ALL.length c5) 5 1 ALL.length (bl ALL), .row g1 (rsv h (n : Int) (.slice Ar r.length cr)) 62, .rd (.slice A2 l.length c2) l.length 1 (bl l), .rd (.slice Ar r.length cr) r.length 1 (bl r)]) 16 (.take 0 (.take 1 (.take 2 (.take 3 (.take 4 (.take 6 (.take 7 (.take 8 (.take 9 (.take 10 (.take 11 (.take 12 (.take 13 (.run 5 (.take 14 (.run 15 (.take 16 Cop.Ord.fin))))))))))))))))) (by kernel_rfl) (by kernel_rfl) (fun _ _ d _ _ h => by cases d <;> exact h) ?_
  intro wa hda
  have HSa := HS5.keep hda
  have HR6a := HR6.below hda
  have HR7a := HR7.below hda
  clear HS5 HR6 HR7
  have HTa : Sep w.heap.size w wa [.own (.slice A5 ALL.length c5) 5 1 ALL.length (bl ALL), .row g1 (rsv h (n : Int) (.slice Ar r.length cr)) 62, .rd (.slice A2 l.length c2) l.length 1 (bl l), .rd (.slice Ar r.length cr) r.length 1 (bl r)] := HSa.sub (by repeat (first | exact List.nil_sublist _ | exact List.Sublist.refl _ | apply List.Sublist.cons_cons | apply List.Sublist.cons))
  (repeat (first | (refine Cop.og_skip rfl rfl HTa _ (by (simp only [Act.put, List.setIfInBounds_toArray, List.set_cons_succ, List.set_cons_zero]; rfl)) ?_) | (refine Cop.og_ld rfl rfl HTa 23 _ rfl (.pointer (some ⟨g1, 0, none⟩)) rfl _ (fun w9 h9 => load_mid (h9.row 1 rfl) 0 (hv h) (rsv_h h _ _) 23 Tryd.underlying23 rfl info_h8) _ (by (simp only [Act.put, List.setIfInBounds_toArray, List.set_cons_succ, List.set_cons_zero]; rfl)) ?_) | (refine Cop.og_take rfl rfl HTa ?_; apply Exists.intro; refine ⟨fun w9 h9 => ?_, _, by (simp only [Act.put, List.setIfInBounds_toArray, List.set_cons_succ, List.set_cons_zero]; rfl), ?_⟩; (obtain ⟨c8, c9⟩ := rsv_cells (h9.row 1 rfl); have q1 := hs6 w9; have q2 := hs7 w9; go_simp; with_reducible rfl))))
  refine Cop.og_run rfl rfl ?_
  refine ow_call 55 _ _ (fun w' => Below wa.heap.size wa w') (by go_simp) (CO.out wa (.slice A6 (q * 64) c6) (by rw [HKL.out]; exact HR6a)) ?_
  intro wb bb
  have HSb := HSa.keep bb
  have HR7b := HR7a.below bb
  have HTb : Sep w.heap.size w wb [.own (.slice A5 ALL.length c5) 5 1 ALL.length (bl ALL), .row g1 (rsv h (n : Int) (.slice Ar r.length cr)) 62, .rd (.slice A2 l.length c2) l.length 1 (bl l), .rd (.slice Ar r.length cr) r.length 1 (bl r)] := HSb.sub (by repeat (first | exact List.nil_sublist _ | exact List.Sublist.refl _ | apply List.Sublist.cons_cons | apply List.Sublist.cons))
  refine ⟨fun _ => HTb, ?_⟩
  refine og_act (by (simp only [Act.put, List.setIfInBounds_toArray, List.set_cons_succ, List.set_cons_zero]; rfl)) ?_
  refine Cop.og_take rfl rfl HTb ⟨_, fun w9 _ => exec_bd9 62 #[(0, .tmp 30), (1, .tmp 35), (2, .tmp 38)] rfl #[(0, .agg (hv H2)), (1, .int .i64 ((n : Int) + (l.length : Int))), (2, .slice A7 TT.length c7)] (by simp [Act.eval]) (.agg (rsv H2 ((n : Int) + (l.length : Int)) (.slice A7 TT.length c7))) (HBD.out w9), _, (by (simp only [Act.put, List.setIfInBounds_toArray, List.set_cons_succ, List.set_cons_zero]; rfl)), ?_⟩
  refine Cop.og_run rfl rfl ?_
  refine ow_st HSb 1 rfl 62 _ _ rfl rfl rfl (rsv_info _ _ _) rfl (rsv_one _ _ _ _ _) ?_
  intro wc HSc
  have HTc : Sep w.heap.size w wc [.own (.slice A5 ALL.length c5) 5 1 ALL.length (bl ALL), .row g1 (rsv h (n : Int) (.slice Ar r.length cr)) 62, .rd (.slice A2 l.length c2) l.length 1 (bl l), .rd (.slice Ar r.length cr) r.length 1 (bl r)] := HSc.sub (by repeat (first | exact List.nil_sublist _ | exact List.Sublist.refl _ | apply List.Sublist.cons_cons | apply List.Sublist.cons))
  refine ⟨fun _ => HTc, ?_⟩
  (repeat (first | (refine Cop.og_skip rfl rfl HTc _ (by (simp only [Act.put, List.setIfInBounds_toArray, List.set_cons_succ, List.set_cons_zero]; rfl)) ?_) | (refine Cop.og_take rfl rfl HTc ?_; apply Exists.intro; refine ⟨fun w9 h9 => ?_, _, by (simp only [Act.put, List.setIfInBounds_toArray, List.set_cons_succ, List.set_cons_zero]; rfl), ?_⟩; (go_simp; with_reducible rfl))))
  refine og_fin ?_
  go_wp2
  refine ret_row_tmp rfl rfl g2 rfl 62 (rsv H2 ((n : Int) + (l.length : Int)) (.slice A7 TT.length c7)) (0, 0) _ (HSc.row 1 rfl) Tryd.underlying62 rfl (rsv_info _ _ _) (.int .i64 0) rfl ⟨.slice A7 TT.length c7, by rw [show ((n + l.length : Nat) : Int) = (n : Int) + (l.length : Int) from by omega], HSc.hb, ?_, fun b hb => ?_⟩
  · obtain ⟨A8, c8, _, _, HR8, _, hs8⟩ := rd_from (HSc.own 0 rfl).rd Tryd.underlying30 info_u8' (q * 64) hqa
    rw [HT.out] at HR8 hs8
    rw [show ((q * 64 : Nat) : Int) = (q : Int) * 64 from by omega] at hs8
    have h9 := (hs7 wc .i64).symm.trans (hs8 wc .i64)
    injection h9 with h3 _
    injection h3 with h4 _ h6
    rw [h4, h6]
    exact HR8
  · have h5 := hb7 b hb
    have h6 : vblk (.slice A5 ALL.length c5) = some b := by
      cases A5 with
      | none => simp [rblk] at h5
      | some a =>
        cases hALL : bl ALL with
        | nil => rw [hALL] at h5; simp [rblk] at h5
        | cons y ys =>
          rw [hALL] at h5
          have hl0 : 0 < ALL.length := by rw [← bl_length ALL, hALL]; simp
          obtain ⟨_, _, he, hc0⟩ := (HSc.own 0 rfl).sl
          injection he with _ _ he
          simp only [rblk] at h5
          simp only [vblk, if_neg (show ¬ c5 = 0 from by omega)]
          exact h5
    exact (HOWN.out.lt b h6).1
end Go.Proofs.YtepcjdifjjombaaDoor
