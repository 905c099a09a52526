/- Recover of one-time signatures, of both. -/
import Derived.Test.YtkgdjddcnlkppaaDoorQd
namespace Go.Proofs.YtkgdjddcnlkppaaDoor
open Go.RowKit Cop
set_option linter.unusedVariables false
set_option linter.unusedSimpArgs false
set_option maxRecDepth 100000 in
set_option maxHeartbeats 4000000 in
theorem recoverNo_a (d : List UInt8) (A : Option Addr) (k c : Nat) (w : World) (hk : k ≠ 4288) (hm : k ≤ 9223372036854775807) : Gives 15 #[.agg (bv d), .slice A k c] w (.tuple #[.agg (bv (List.replicate 32 0)), .int .i64 190]) := by
  have HS0 := Sep.start w
  have h1 : ¬ (k : Int) = 4288 := by omega
  go_enter Tryd.func15, Tryd.ntmps15
  go_wp2_with (first | refine wl_bx HS0 rfl 23 _ rfl (bv d) rfl ?_)
  intro g1 w1 HS1
  go_wp2_with (first | refine wl_al HS1 rfl 23 rfl (bv (List.replicate 32 0)) (by kernel_rfl) ?_)
  intro g2 w2 HS2
  clear HS0 HS1
  go_wp2_with (first | refine wl_st HS2 0 rfl rfl 23 _ _ rfl rfl (cs := bv (List.replicate 32 0)) rfl (dgS rfl) rfl (bv_one _) ?_)
  intro w3 HS3
  go_wp2_with fail
  exact ret_row_tmp rfl rfl g2 rfl 23 (bv (List.replicate 32 0)) (0, 0) _ (HS3.row 0 rfl) Tryd.underlying23 rfl (dgS rfl) (.int .i64 190) rfl ⟨rfl, HS3.hb⟩
set_option maxRecDepth 100000 in
set_option maxHeartbeats 4000000 in
theorem recoverNo_b (d : List UInt8) (A : Option Addr) (k c : Nat) (w : World) (hk : k ≠ 4288) (hm : k ≤ 9223372036854775807) : Gives 16 #[.agg (bv d), .slice A k c] w (.tuple #[.agg (bv (List.replicate 32 0)), .int .i64 190]) := by
  have HS0 := Sep.start w
  have h1 : ¬ (k : Int) = 4288 := by omega
  go_enter Tryd.func16, Tryd.ntmps16
  go_wp2_with (first | refine wl_bx HS0 rfl 23 _ rfl (bv d) rfl ?_)
  intro g1 w1 HS1
  go_wp2_with (first | refine wl_al HS1 rfl 23 rfl (bv (List.replicate 32 0)) (by kernel_rfl) ?_)
  intro g2 w2 HS2
  clear HS0 HS1
  go_wp2_with (first | refine wl_st HS2 0 rfl rfl 23 _ _ rfl rfl (cs := bv (List.replicate 32 0)) rfl (dgS rfl) rfl (bv_one _) ?_)
  intro w3 HS3
  go_wp2_with fail
  exact ret_row_tmp rfl rfl g2 rfl 23 (bv (List.replicate 32 0)) (0, 0) _ (HS3.row 0 rfl) Tryd.underlying23 rfl (dgS rfl) (.int .i64 190) rfl ⟨rfl, HS3.hb⟩
set_option maxRecDepth 100000 in
set_option maxHeartbeats 4000000 in
theorem recover_gen (d g S0 P : List UInt8) (v : Value) (C L Y : Nat → List UInt8) (K : Nat → Nat) (dg : List Nat) (w : World) (hd : d.length = 32) (hR : Rd w v 4288 1 (bl g)) (hS : S0.length = 32) (hP : P.length = 32) (hC0 : [3] ++ S0 = C 0) (hC : ∀ n, C n ++ L n = C (n + 1)) (hCl : ∀ n, n ≤ 133 → (C n).length = 33 + 32 * n)
    (hL : ∀ n, n < 133 → (L n).length = 32) (hY : ∀ n, n < 133 → (Y n).length = 32) (hdg : ∀ n, n < 133 → dg[n]? = some (K n))
    (hCS : ∀ w', Rd w' v 4288 1 (bl g) → Gives 29 #[v, .int .i64 0] w' (.tuple #[.agg (bv S0), .int .i64 32, .int .i64 0]))
    (hCY : ∀ (w' : World) (n : Nat), n < 133 → Rd w' v 4288 1 (bl g) → Gives 29 #[v, .int .i64 (32 + 32 * (n : Int))] w' (.tuple #[.agg (bv (Y n)), .int .i64 (32 + 32 * ((n + 1 : Nat) : Int)), .int .i64 0]))
    (hCD : ∀ w', Gives 30 #[.agg (bv d)] w' (.agg (nv dg)))
    (hCH : ∀ (w' : World) (n : Nat), Below w.heap.size w w' → n < 133 → Gives 27 #[.agg (bv S0), .int .i64 (n : Nat), .int .i64 (K n : Nat), .int .i64 3, .agg (bv (Y n))] w' (.agg (bv (L n))))
    (hCP : ∀ w' v, Below w.heap.size w w' → Rd w' v (C 133).length 1 (bl (C 133)) → Gives 32 #[v] w' (.agg (bv P))) :
    Gives 15 #[.agg (bv d), v] w (.tuple #[.agg (bv P), .int .i64 0]) := by
  have CS := Lib.hid hCS
  have CY := Lib.hid hCY
  have CD := Lib.hid hCD
  have CH := Lib.hid hCH
  have CQ := Lib.hid hCP
  have HC0 := Lib.hid hC0
  have HC := Lib.hid hC
  have HCL := Lib.hid hCl
  have HL := Lib.hid hL
  have HY := Lib.hid hY
  have HDG := Lib.hid hdg
  have HSL := Lib.hid hS
  have HPL := Lib.hid hP
  have HC0L := Lib.hid (show 1 + 32 = (C 0).length by rw [hCl _ (by omega)])
  have hc0 : (C 0).length ≤ 33 := by rw [hCl _ (by omega)]; omega
  have HS0 := (Sep.start w).arg0 hR
  obtain ⟨A, c, rfl, hc, hcm⟩ := hR.shape
  clear hCS hCY hCD hCH hC0 hC hCl hL hY hS hP hCP hdg hR
  go_enter Tryd.func15, Tryd.ntmps15
  go_wp2_with (first | refine wl_bx HS0 rfl 23 _ rfl (bv d) rfl ?_)
  intro g1 w1 HS1
  go_wp2_with (first | refine wl_al HS1 rfl 23 rfl (bv (List.replicate 32 0)) (by kernel_rfl) ?_)
  intro g2 w2 HS2
  clear HS0 HS1
  go_wp2_with fail
  (with_reducible refine Calls.mono (CS.out w2 (HS2.rd 2 rfl)) ?_)
  rintro e w3 ⟨rfl, b3⟩
  have HS3 := HS2.keep b3
  clear HS2
  go_wp2_with (first | refine wl_al HS3 rfl 23 rfl (bv (List.replicate 32 0)) (by kernel_rfl) ?_)
  intro g3 w4 HS4
  go_wp2_with (first | refine wl_st HS4 0 rfl rfl 23 _ _ rfl rfl rfl (dgS HSL.out) (dgE rfl HSL.out) (bv_one _) ?_)
  intro w5 HS5
  go_wp2_with (first | refine wl_bs HS5 rfl 33 5 1 1 _ rfl (bl [3]) (.int .u8 0) Tryd.underlying33 (by kernel_rfl) (by decide) (by decide) (by kernel_rfl) rfl ?_)
  intro g4 w6 HS6
  go_wp2_with (first | refine wl_apb (xs := [3]) HS6 0 rfl rfl rfl (Sep.rdRow HS6 1 rfl 32 HSL.out (by decide)) rfl rfl (C 0).length (C 0) HC0L.out HC0.out (by omega) ?_)
  intro v7 w7 HS7 _
  obtain ⟨A7, c7, rfl, _⟩ := (HS7.own 0 rfl).sl
  clear HS3 HS4 HS5 HS6
  go_wp2_with (first | refine wl_ld HS7 3 rfl rfl 23 _ rfl rfl Tryd.underlying23 rfl (dgS hd) ?_)
  (with_reducible refine Calls.mono (CD.out w7) ?_)
  rintro e w8 ⟨rfl, b8⟩
  have HS8 := HS7.keep b8
  clear HS7
  go_wp2
  go_loopw [7, 9, 30] (fun s7 s9 s30 wr => ∃ (n : Nat) (A1 : Option Addr) (c1 : Nat), n ≤ 133 ∧ s30 = .int .i64 n ∧ s7 = .int .i64 (32 + 32 * (n : Int)) ∧ s9 = .slice A1 (C n).length c1 ∧ Sep w.heap.size w wr [.own (.slice A1 (C n).length c1) 5 1 (C n).length (bl (C n)), .row g3 (bv S0) 23, .row g2 (bv (List.replicate 32 0)) 23, .row g1 (bv d) 23, .rd (.slice A 4288 c) 4288 1 (bl g)]) (fun _ _ s30 _ => 133 - (intOf s30).toNat)
  case atStart => exact ⟨0, _, _, by omega, rfl, rfl, rfl, HS8⟩
  case round =>
    clear HS8
    obtain ⟨n, A1, c1, hn, rfl, rfl, rfl, HSi⟩ := hrel
    by_cases hlt : n < 133
    · have hlt' : (n : Int) < 133 := by omega
      have CP := Lib.hid (fun w' v hR => putDigest_a (C n) (L n) v w' hR (HL.out n hlt) (by have := HCL.out n hn; omega))
      rw [HC.out n] at CP
      have HYL := Lib.hid (HY.out n hlt)
      go_wp2_with (refine wl_ix rfl 56 _ _ rfl (nv dg) rfl .i64 n rfl Tryd.underlying56 Tryd.underlying3 (by kernel_rfl) (.int .i64 (K n : Nat)) hlt (nv_at dg n (K n) (HDG.out n hlt)) ?_)
      (with_reducible refine Calls.mono (CY.out wr n hlt (HSi.rd 4 rfl)) ?_)
      rintro e wb ⟨rfl, bb⟩
      have HSb := HSi.keep bb
      clear HSi
      go_wp2_with (first | refine wl_al HSb rfl 23 rfl (bv (List.replicate 32 0)) (by kernel_rfl) ?_)
      intro g9 wc HSc
      go_wp2_with (first | refine wl_st HSc 0 rfl rfl 23 _ _ rfl rfl rfl (dgS HYL.out) (dgE rfl HYL.out) (bv_one _) ?_)
      intro wd HSd
      go_wp2_with (first | refine wl_ld HSd 2 rfl rfl 23 _ rfl rfl Tryd.underlying23 rfl (dgS HSL.out) ?_ | refine wl_ld HSd 0 rfl rfl 23 _ rfl rfl Tryd.underlying23 rfl (dgS HYL.out) ?_)
      (with_reducible refine Calls.mono (CH.out wd n HSd.hb hlt) ?_)
      rintro e we ⟨rfl, be⟩
      have HSe := HSd.keep be
      clear HSd
      clear HSb HSc
      go_wp2_with fail
      refine Calls.mono (CP.out we _ (HSe.own 1 rfl).rd) ?_
      rintro e wf ⟨v9, rfl, bf, of⟩
      have HSf := HSe.made bf of
      obtain ⟨A9, c9, rfl, _⟩ := (HSf.own 0 rfl).sl
      go_wp2
      go_roundw
      case rel => exact ⟨n + 1, A9, c9, by omega, by go_num, rfl, rfl, HSf.sub (by repeat (first | exact List.nil_sublist _ | exact List.Sublist.refl _ | apply List.Sublist.cons_cons | apply List.Sublist.cons))⟩
      case measure => simp [intOf]; omega
    · have hn2 : n = 133 := by omega
      subst hn2
      go_wp2_with fail
      (with_reducible refine Calls.mono (CQ.out wr _ HSi.hb (HSi.own 0 rfl).rd) ?_)
      rintro e wx ⟨rfl, bx⟩
      have HSx := HSi.keep bx
      clear HSi
      go_wp2_with (first | refine wl_st HSx 2 rfl rfl 23 _ _ rfl rfl rfl (dgS HPL.out) (dgE rfl HPL.out) (bv_one _) ?_)
      intro wy HSy
      go_wp2_with fail
      exact ret_row_tmp rfl rfl g2 rfl 23 (bv P) (0, 0) _ (HSy.row 2 rfl) Tryd.underlying23 rfl (dgS HPL.out) (.int .i64 0) rfl ⟨rfl, HSy.hb⟩
theorem lead_l (d g : List UInt8) (h : g.length = 4288) (n : Nat) (hn : n ≤ 133) : (cats ([3] ++ atD g 0) (leadD d g) n).length = 33 + 32 * n := by
  induction n with
  | zero => show ([3] ++ atD g 0).length = _; rw [List.length_append, atD_length g 0 (by omega)]; rfl
  | succ n ih => rw [cats_succ, List.length_append, ih (by omega), leadD_length d g n (by omega)]; omega
theorem recover_a (d g : List UInt8) (v : Value) (w : World) (hT : Tab w) (hd : d.length = 32) (hg : g.length = 4288) (hR : Rd w v 4288 1 (bl g)) :
    Gives 15 #[.agg (bv d), v] w (.tuple #[.agg (bv (recoverD d g)), .int .i64 0]) := by
  refine recover_gen d g (atD g 0) (recoverD d g) v (cats ([3] ++ atD g 0) (leadD d g)) (leadD d g) (fun n => atD g (1 + n)) (dgt d) (dgts d 133) w hd hR (atD_length g 0 (by omega)) (recoverD_length d g) rfl (fun n => rfl) (lead_l d g hg)
    (fun n h => leadD_length d g n (by omega)) (fun n h => atD_length g (1 + n) (by omega)) (fun n h => dgts_get d 133 n h)
    (fun w' h => digestAt_a g v 0 w' (by rw [hg]; exact h) (by omega) (by omega))
    (fun w' n hn h => by
      have := digestAt_a g v (32 * (1 + n)) w' (by rw [hg]; exact h) (by omega) (by omega)
      rwa [show ((32 * (1 + n) : Nat) : Int) = 32 + 32 * (n : Int) from by omega, show (32 : Int) + 32 * (n : Int) + 32 = 32 + 32 * ((n + 1 : Nat) : Int) from by omega] at this)
    (fun w' => digits_a d hd w')
    (fun w' n hb h => by
      have h4 := dgt_lt d n
      have := chain_a (atD g 0) (atD g (1 + n)) n (dgt d n) (3 - dgt d n) w' (hT.below hb) (atD_length g 0 (by omega)) (atD_length g (1 + n) (by omega)) (by omega) (by omega)
      rw [show dgt d n + (3 - dgt d n) = 3 from by omega] at this
      exact this)
    (fun w' v hb hR => sum_a _ v w' (hT.below hb) hR (by rw [lead_l d g hg _ (by omega)]; omega))
set_option maxRecDepth 100000 in
set_option maxHeartbeats 4000000 in
theorem recoverB_gen (d g S0 P : List UInt8) (v : Value) (C L Y : Nat → List UInt8) (K : Nat → Nat) (dg : List Nat) (w : World) (hd : d.length = 32) (hR : Rd w v 4288 1 (bl g)) (hS : S0.length = 32) (hP : P.length = 32) (hC0 : [3] ++ S0 = C 0) (hC : ∀ n, C n ++ L n = C (n + 1)) (hCl : ∀ n, n ≤ 133 → (C n).length = 33 + 32 * n)
    (hL : ∀ n, n < 133 → (L n).length = 32) (hY : ∀ n, n < 133 → (Y n).length = 32) (hdl : dg.length = 133) (hdg : ∀ n, n < 133 → dg[n]? = some (K n))
    (hCS : ∀ w', Rd w' v 4288 1 (bl g) → Gives 33 #[v, .int .i64 0] w' (.agg (bv S0)))
    (hCY : ∀ (w' : World) (n : Nat), n < 133 → Rd w' v 4288 1 (bl g) → Gives 33 #[v, .int .i64 (1 + (n : Int))] w' (.agg (bv (Y n))))
    (hCD : ∀ w', Gives 34 #[.agg (bv d)] w' (.agg (nv dg)))
    (hCH : ∀ (w' : World) (n : Nat), n < 133 → Gives 14 #[.agg (bv S0), .int .i64 (n : Nat), .int .i64 (K n : Nat), .int .i64 3, .agg (bv (Y n))] w' (.agg (bv (L n))))
    (hCP : ∀ w' v, Rd w' v (C 133).length 1 (bl (C 133)) → Gives 28 #[v] w' (.agg (bv P))) :
    Gives 16 #[.agg (bv d), v] w (.tuple #[.agg (bv P), .int .i64 0]) := by
  have CS := Lib.hid hCS
  have CY := Lib.hid hCY
  have CD := Lib.hid hCD
  have CH := Lib.hid hCH
  have CQ := Lib.hid hCP
  have HC0 := Lib.hid hC0
  have HC := Lib.hid hC
  have HCL := Lib.hid hCl
  have HL := Lib.hid hL
  have HY := Lib.hid hY
  have HDL := Lib.hid hdl
  have HDG := Lib.hid hdg
  have HSL := Lib.hid hS
  have HPL := Lib.hid hP
  have HC0L := Lib.hid (show 1 + 32 = (C 0).length by rw [hCl _ (by omega)])
  have hc0 : (C 0).length ≤ 33 := by rw [hCl _ (by omega)]; omega
  have HS0 := (Sep.start w).arg0 hR
  obtain ⟨A, c, rfl, hc, hcm⟩ := hR.shape
  clear hCS hCY hCD hCH hC0 hC hCl hL hY hS hP hCP hdg hR hdl
  go_enter Tryd.func16, Tryd.ntmps16
  go_wp2_with (first | refine wl_bx HS0 rfl 23 _ rfl (bv d) rfl ?_)
  intro g1 w1 HS1
  go_wp2_with (first | refine wl_al HS1 rfl 23 rfl (bv (List.replicate 32 0)) (by kernel_rfl) ?_)
  intro g2 w2 HS2
  clear HS0 HS1
  go_wp2_with fail
  (with_reducible refine Calls.mono (CS.out w2 (HS2.rd 2 rfl)) ?_)
  rintro e w3 ⟨rfl, b3⟩
  have HS3 := HS2.keep b3
  clear HS2
  go_wp2_with (first | refine wl_al HS3 rfl 23 rfl (bv (List.replicate 32 0)) (by kernel_rfl) ?_)
  intro g3 w4 HS4
  go_wp2_with (first | refine wl_st HS4 0 rfl rfl 23 _ _ rfl rfl rfl (dgS HSL.out) (dgE rfl HSL.out) (bv_one _) ?_)
  intro w5 HS5
  go_wp2_with (first | refine wl_ld HS5 2 rfl rfl 23 _ rfl rfl Tryd.underlying23 rfl (dgS hd) ?_)
  (with_reducible refine Calls.mono (CD.out w5) ?_)
  rintro e w6 ⟨rfl, b6⟩
  have HS6 := HS5.keep b6
  clear HS5
  go_wp2_with (first | refine wl_al HS6 rfl 56 rfl (nv (List.replicate 133 0)) (by kernel_rfl) ?_)
  intro g4 w7 HS7
  go_wp2_with (first | refine wl_st HS7 0 rfl rfl 56 _ _ rfl rfl rfl (info_n133' dg HDL.out) (by rw [nv_size, nv_size, HDL.out]; rfl) (nv_one _) ?_)
  intro w8 HS8
  go_wp2_with (first | refine wl_bs HS8 rfl 33 5 1 1 _ rfl (bl [3]) (.int .u8 0) Tryd.underlying33 (by kernel_rfl) (by decide) (by decide) (by kernel_rfl) rfl ?_)
  intro g5 w9 HS9
  go_wp2_with (first | refine wl_apb (xs := [3]) HS9 0 rfl rfl rfl (Sep.rdRow HS9 2 rfl 32 HSL.out (by decide)) rfl rfl (C 0).length (C 0) HC0L.out HC0.out (by omega) ?_)
  intro va wa HSa _
  obtain ⟨Aa, ca, rfl, _⟩ := (HSa.own 0 rfl).sl
  clear HS3 HS4 HS6 HS7 HS8 HS9
  go_wp2
  go_loopw [8, 9] (fun s8 s9 wr => ∃ (n : Nat) (A1 : Option Addr) (c1 : Nat), n ≤ 133 ∧ s9 = .int .i64 n ∧ s8 = .slice A1 (C n).length c1 ∧ Sep w.heap.size w wr [.own (.slice A1 (C n).length c1) 5 1 (C n).length (bl (C n)), .row g4 (nv dg) 56, .row g3 (bv S0) 23, .row g2 (bv (List.replicate 32 0)) 23, .row g1 (bv d) 23, .rd (.slice A 4288 c) 4288 1 (bl g)]) (fun _ s9 _ => 133 - (intOf s9).toNat)
  case atStart => exact ⟨0, _, _, by omega, rfl, rfl, HSa⟩
  case round =>
    clear HSa
    obtain ⟨n, A1, c1, hn, rfl, rfl, HSi⟩ := hrel
    by_cases hlt : n < 133
    · have hlt' : (n : Int) < 133 := by omega
      have HYL := Lib.hid (HY.out n hlt)
      have HLL := Lib.hid (HL.out n hlt)
      have HK := Lib.hid (nv_at dg n (K n) (HDG.out n hlt))
      have HC1 := Lib.hid (show (C n).length + 32 = (C (n + 1)).length by rw [← HC.out n, List.length_append, HL.out n hlt])
      have hc1 : (C (n + 1)).length ≤ 5000 := by rw [HCL.out _ (by omega)]; omega
      have HWR := Lib.hid (show IntKind.i64.wrap (1 + (n : Int)) = 1 + (n : Int) by rw [IntKind.wrap_i64]; omega)
      go_wp2
      refine Cop.region_ord (fun w' => Sep w.heap.size w w' [.row g4 (nv dg) 56, .row g3 (bv S0) 23]) 11 (.take 0 (.take 1 (.take 2 (.take 3 (.take 4 (.take 5 (.take 6 (.take 7 (.run2 8 (.run2 9 (.run 10 (.run 11 Cop.Ord.fin)) 10 (.run 9 (.run 11 Cop.Ord.fin))) 10 (.run 8 (.run 9 (.run 11 Cop.Ord.fin)))))))))))) (by kernel_rfl) (by kernel_rfl) (fun _ _ d _ _ h => by cases d <;> exact h) ?_
      intro we hde
      have HSe := HSi.keep hde
      have HTe : Sep w.heap.size w we [.row g4 (nv dg) 56, .row g3 (bv S0) 23] := HSe.sub (by repeat (first | exact List.nil_sublist _ | exact List.Sublist.refl _ | apply List.Sublist.cons_cons | apply List.Sublist.cons))
      clear HSi
      (repeat (first | (refine Cop.og_skip rfl rfl HTe _ (by (simp only [Act.put, List.setIfInBounds_toArray, List.set_cons_succ, List.set_cons_zero]; rfl)) ?_) | (refine Cop.og_ld rfl rfl HTe 23 _ rfl (.pointer (some ⟨g3, 0, none⟩)) rfl _ (fun w9 h9 => load_row (h9.row 1 rfl) 23 Tryd.underlying23 rfl (dgS HSL.out)) _ (by (simp only [Act.put, List.setIfInBounds_toArray, List.set_cons_succ, List.set_cons_zero]; rfl)) ?_) | (refine Cop.og_take rfl rfl HTe ?_; apply Exists.intro; refine ⟨fun w9 h9 => ?_, _, by (simp only [Act.put, List.setIfInBounds_toArray, List.set_cons_succ, List.set_cons_zero]; rfl), ?_⟩; (have c0 := (row_cell (h9.row 0 rfl) n).trans HK.out; have q1 := HWR.out; go_simp; with_reducible rfl))))
      refine og_run2 ?_ ?_
      · refine Cop.og_run rfl rfl ?_
        refine ow_call 33 _ _ (fun w' => Below we.heap.size we w') (by go_simp) (CY.out we n hlt (HSe.rd 5 rfl)) ?_
        intro wf bf
        have HSf := HSe.keep bf
        have HTf := HTe.keep bf
        refine ⟨fun _ => HTf, ?_⟩
        (repeat (first | (refine Cop.og_skip rfl rfl HTf _ (by (simp only [Act.put, List.setIfInBounds_toArray, List.set_cons_succ, List.set_cons_zero]; rfl)) ?_) | (refine Cop.og_take rfl rfl HTf ?_; apply Exists.intro; refine ⟨fun w9 h9 => ?_, _, by (simp only [Act.put, List.setIfInBounds_toArray, List.set_cons_succ, List.set_cons_zero]; rfl), ?_⟩; (go_simp; with_reducible rfl))))
        refine og_run2 ?_ ?_
        · refine Cop.og_run rfl rfl ?_
          refine ow_call 14 _ _ (fun w' => Below wf.heap.size wf w') (by go_simp) (CH.out wf n hlt) ?_
          intro wg bg
          have HSg := HSf.keep bg
          have HTg := HTf.keep bg
          refine ⟨fun _ => HTg, ?_⟩
          (repeat (first | (refine Cop.og_skip rfl rfl HTg _ (by (simp only [Act.put, List.setIfInBounds_toArray, List.set_cons_succ, List.set_cons_zero]; rfl)) ?_) | (refine Cop.og_take rfl rfl HTg ?_; apply Exists.intro; refine ⟨fun w9 h9 => ?_, _, by (simp only [Act.put, List.setIfInBounds_toArray, List.set_cons_succ, List.set_cons_zero]; rfl), ?_⟩; (go_simp; with_reducible rfl))))
          refine Cop.og_run rfl rfl ?_
          refine ow_al HSg 23 rfl (bv (List.replicate 32 0)) (by kernel_rfl) ?_
          intro g9 wh HSh
          have HTh : Sep w.heap.size w wh [.row g4 (nv dg) 56, .row g3 (bv S0) 23] := HSh.sub (by repeat (first | exact List.nil_sublist _ | exact List.Sublist.refl _ | apply List.Sublist.cons_cons | apply List.Sublist.cons))
          refine ⟨fun _ => HTh, ?_⟩
          (repeat (first | (refine Cop.og_skip rfl rfl HTh _ (by (simp only [Act.put, List.setIfInBounds_toArray, List.set_cons_succ, List.set_cons_zero]; rfl)) ?_) | (refine Cop.og_take rfl rfl HTh ?_; apply Exists.intro; refine ⟨fun w9 h9 => ?_, _, by (simp only [Act.put, List.setIfInBounds_toArray, List.set_cons_succ, List.set_cons_zero]; rfl), ?_⟩; (go_simp; with_reducible rfl))))
          refine Cop.og_run rfl rfl ?_
          refine ow_st HSh 0 rfl 23 _ _ rfl rfl rfl (dgS HLL.out) (dgE rfl HLL.out) (bv_one _) ?_
          intro wi HSi
          refine ⟨fun h => absurd rfl h, ?_⟩
          refine og_fin ?_
          go_wp2_with (refine wl_apb HSi 1 rfl rfl rfl (Sep.rdRow HSi 0 rfl 32 HLL.out (by decide)) rfl rfl (C (n + 1)).length (C (n + 1)) HC1.out (HC.out n) (by omega) ?_)
          intro v9 wj HSj _
          obtain ⟨A9, c9, rfl, _⟩ := (HSj.own 1 rfl).sl
          go_wp2
          go_roundw
          case rel => exact ⟨n + 1, A9, c9, by omega, by go_num, rfl, HSj.sub (by repeat (first | exact List.nil_sublist _ | exact List.Sublist.refl _ | apply List.Sublist.cons_cons | apply List.Sublist.cons))⟩
          case measure => simp [intOf]; omega
        · refine Cop.og_run rfl rfl ?_
          refine ow_al HSf 23 rfl (bv (List.replicate 32 0)) (by kernel_rfl) ?_
          intro g9 wg HSg
          have HTg : Sep w.heap.size w wg [.row g4 (nv dg) 56, .row g3 (bv S0) 23] := HSg.sub (by repeat (first | exact List.nil_sublist _ | exact List.Sublist.refl _ | apply List.Sublist.cons_cons | apply List.Sublist.cons))
          refine ⟨fun _ => HTg, ?_⟩
          (repeat (first | (refine Cop.og_skip rfl rfl HTg _ (by (simp only [Act.put, List.setIfInBounds_toArray, List.set_cons_succ, List.set_cons_zero]; rfl)) ?_) | (refine Cop.og_take rfl rfl HTg ?_; apply Exists.intro; refine ⟨fun w9 h9 => ?_, _, by (simp only [Act.put, List.setIfInBounds_toArray, List.set_cons_succ, List.set_cons_zero]; rfl), ?_⟩; (go_simp; with_reducible rfl))))
          refine Cop.og_run rfl rfl ?_
          refine ow_call 14 _ _ (fun w' => Below wg.heap.size wg w') (by go_simp) (CH.out wg n hlt) ?_
          intro wh bh
          have HSh := HSg.keep bh
          have HTh := HTg.keep bh
          refine ⟨fun _ => HTh, ?_⟩
          (repeat (first | (refine Cop.og_skip rfl rfl HTh _ (by (simp only [Act.put, List.setIfInBounds_toArray, List.set_cons_succ, List.set_cons_zero]; rfl)) ?_) | (refine Cop.og_take rfl rfl HTh ?_; apply Exists.intro; refine ⟨fun w9 h9 => ?_, _, by (simp only [Act.put, List.setIfInBounds_toArray, List.set_cons_succ, List.set_cons_zero]; rfl), ?_⟩; (go_simp; with_reducible rfl))))
          refine Cop.og_run rfl rfl ?_
          refine ow_st HSh 0 rfl 23 _ _ rfl rfl rfl (dgS HLL.out) (dgE rfl HLL.out) (bv_one _) ?_
          intro wi HSi
          refine ⟨fun h => absurd rfl h, ?_⟩
          refine og_fin ?_
          go_wp2_with (refine wl_apb HSi 1 rfl rfl rfl (Sep.rdRow HSi 0 rfl 32 HLL.out (by decide)) rfl rfl (C (n + 1)).length (C (n + 1)) HC1.out (HC.out n) (by omega) ?_)
          intro v9 wj HSj _
          obtain ⟨A9, c9, rfl, _⟩ := (HSj.own 1 rfl).sl
          go_wp2
          go_roundw
          case rel => exact ⟨n + 1, A9, c9, by omega, by go_num, rfl, HSj.sub (by repeat (first | exact List.nil_sublist _ | exact List.Sublist.refl _ | apply List.Sublist.cons_cons | apply List.Sublist.cons))⟩
          case measure => simp [intOf]; omega
      · refine Cop.og_run rfl rfl ?_
        refine ow_al HSe 23 rfl (bv (List.replicate 32 0)) (by kernel_rfl) ?_
        intro g9 wf HSf
        have HTf : Sep w.heap.size w wf [.row g4 (nv dg) 56, .row g3 (bv S0) 23] := HSf.sub (by repeat (first | exact List.nil_sublist _ | exact List.Sublist.refl _ | apply List.Sublist.cons_cons | apply List.Sublist.cons))
        refine ⟨fun _ => HTf, ?_⟩
        (repeat (first | (refine Cop.og_skip rfl rfl HTf _ (by (simp only [Act.put, List.setIfInBounds_toArray, List.set_cons_succ, List.set_cons_zero]; rfl)) ?_) | (refine Cop.og_take rfl rfl HTf ?_; apply Exists.intro; refine ⟨fun w9 h9 => ?_, _, by (simp only [Act.put, List.setIfInBounds_toArray, List.set_cons_succ, List.set_cons_zero]; rfl), ?_⟩; (go_simp; with_reducible rfl))))
        refine Cop.og_run rfl rfl ?_
        refine ow_call 33 _ _ (fun w' => Below wf.heap.size wf w') (by go_simp) (CY.out wf n hlt (HSf.rd 6 rfl)) ?_
        intro wg bg
        have HSg := HSf.keep bg
        have HTg := HTf.keep bg
        refine ⟨fun _ => HTg, ?_⟩
        (repeat (first | (refine Cop.og_skip rfl rfl HTg _ (by (simp only [Act.put, List.setIfInBounds_toArray, List.set_cons_succ, List.set_cons_zero]; rfl)) ?_) | (refine Cop.og_take rfl rfl HTg ?_; apply Exists.intro; refine ⟨fun w9 h9 => ?_, _, by (simp only [Act.put, List.setIfInBounds_toArray, List.set_cons_succ, List.set_cons_zero]; rfl), ?_⟩; (go_simp; with_reducible rfl))))
        refine Cop.og_run rfl rfl ?_
        refine ow_call 14 _ _ (fun w' => Below wg.heap.size wg w') (by go_simp) (CH.out wg n hlt) ?_
        intro wh bh
        have HSh := HSg.keep bh
        have HTh := HTg.keep bh
        refine ⟨fun _ => HTh, ?_⟩
        (repeat (first | (refine Cop.og_skip rfl rfl HTh _ (by (simp only [Act.put, List.setIfInBounds_toArray, List.set_cons_succ, List.set_cons_zero]; rfl)) ?_) | (refine Cop.og_take rfl rfl HTh ?_; apply Exists.intro; refine ⟨fun w9 h9 => ?_, _, by (simp only [Act.put, List.setIfInBounds_toArray, List.set_cons_succ, List.set_cons_zero]; rfl), ?_⟩; (go_simp; with_reducible rfl))))
        refine Cop.og_run rfl rfl ?_
        refine ow_st HSh 0 rfl 23 _ _ rfl rfl rfl (dgS HLL.out) (dgE rfl HLL.out) (bv_one _) ?_
        intro wi HSi
        refine ⟨fun h => absurd rfl h, ?_⟩
        refine og_fin ?_
        go_wp2_with (refine wl_apb HSi 1 rfl rfl rfl (Sep.rdRow HSi 0 rfl 32 HLL.out (by decide)) rfl rfl (C (n + 1)).length (C (n + 1)) HC1.out (HC.out n) (by omega) ?_)
        intro v9 wj HSj _
        obtain ⟨A9, c9, rfl, _⟩ := (HSj.own 1 rfl).sl
        go_wp2
        go_roundw
        case rel => exact ⟨n + 1, A9, c9, by omega, by go_num, rfl, HSj.sub (by repeat (first | exact List.nil_sublist _ | exact List.Sublist.refl _ | apply List.Sublist.cons_cons | apply List.Sublist.cons))⟩
        case measure => simp [intOf]; omega
    · have hn2 : n = 133 := by omega
      subst hn2
      go_wp2_with fail
      (with_reducible refine Calls.mono (CQ.out wr _ (HSi.own 0 rfl).rd) ?_)
      rintro e wx ⟨rfl, bx⟩
      have HSx := HSi.keep bx
      clear HSi
      go_wp2_with (first | refine wl_st HSx 3 rfl rfl 23 _ _ rfl rfl rfl (dgS HPL.out) (dgE rfl HPL.out) (bv_one _) ?_)
      intro wy HSy
      go_wp2_with fail
      exact ret_row_tmp rfl rfl g2 rfl 23 (bv P) (0, 0) _ (HSy.row 3 rfl) Tryd.underlying23 rfl (dgS HPL.out) (.int .i64 0) rfl ⟨rfl, HSy.hb⟩
theorem recover_b (d g : List UInt8) (v : Value) (w : World) (hd : d.length = 32) (hg : g.length = 4288) (hR : Rd w v 4288 1 (bl g)) :
    Gives 16 #[.agg (bv d), v] w (.tuple #[.agg (bv (recoverD d g)), .int .i64 0]) := by
  refine recoverB_gen d g (atD g 0) (recoverD d g) v (cats ([3] ++ atD g 0) (leadD d g)) (leadD d g) (fun n => atD g (1 + n)) (dgt d) (dgts d 133) w hd hR (atD_length g 0 (by omega)) (recoverD_length d g) rfl (fun n => rfl) (lead_l d g hg)
    (fun n h => leadD_length d g n (by omega)) (fun n h => atD_length g (1 + n) (by omega)) (dgts_length d 133) (fun n h => dgts_get d 133 n h)
    (fun w' h => at_b g v 0 w' (by rw [hg]; exact h) (by omega) (by omega))
    (fun w' n hn h => by
      have := at_b g v (1 + n) w' (by rw [hg]; exact h) (by omega) (by omega)
      rwa [show ((1 + n : Nat) : Int) = 1 + (n : Int) from by omega] at this)
    (fun w' => digits_b d hd w')
    (fun w' n h => by
      have h4 := dgt_lt d n
      have := refChain_b (atD g 0) (atD g (1 + n)) n (dgt d n) (3 - dgt d n) w' (atD_length g 0 (by omega)) (atD_length g (1 + n) (by omega)) (by omega) (by omega)
      rw [show dgt d n + (3 - dgt d n) = 3 from by omega] at this
      exact this)
    (fun w' v hR => sum_b _ v w' hR (by rw [lead_l d g hg _ (by omega)]; omega))
end Go.Proofs.YtkgdjddcnlkppaaDoor
