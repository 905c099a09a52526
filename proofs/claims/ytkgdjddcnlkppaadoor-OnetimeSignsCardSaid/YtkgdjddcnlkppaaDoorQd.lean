/- Sign and Public of the reference. -/
import Derived.Test.YtkgdjddcnlkppaaDoorQc
namespace Go.Proofs.YtkgdjddcnlkppaaDoor
open Go.RowKit Cop
set_option linter.unusedVariables false
set_option linter.unusedSimpArgs false
theorem info_n133' (l : List Nat) (h : l.length = 133) : (Tryd.prog.info? 56).map (·.size) = some (nv l).size := by rw [nv_size, h]; kernel_rfl
set_option maxRecDepth 100000 in
set_option maxHeartbeats 4000000 in
theorem signB_gen (s d S0 : List UInt8) (C L X : Nat → List UInt8) (K : Nat → Nat) (dg : List Nat) (w : World) (hs : s.length = 32) (hd : d.length = 32) (hS : S0.length = 32) (hC0 : C 0 = S0) (hC : ∀ n, C n ++ L n = C (n + 1)) (hCl : ∀ n, (C n).length = 32 + 32 * n)
    (hL : ∀ n, (L n).length = 32) (hX : ∀ n, (X n).length = 32) (hdl : dg.length = 133) (hdg : ∀ n, n < 133 → dg[n]? = some (K n))
    (hCS : ∀ w', Gives 43 #[.agg (bv s)] w' (.agg (bv S0)))
    (hCD : ∀ w', Gives 34 #[.agg (bv d)] w' (.agg (nv dg)))
    (hCX : ∀ w' n, n < 133 → Gives 18 #[.agg (bv s), .string ⟨#[99, 104, 97, 105, 110]⟩, .int .i64 (n : Nat)] w' (.tuple #[.agg (bv (X n)), .int .i64 0]))
    (hCH : ∀ w' n, n < 133 → Gives 14 #[.agg (bv S0), .int .i64 (n : Nat), .int .i64 0, .int .i64 (K n : Nat), .agg (bv (X n))] w' (.agg (bv (L n)))) :
    Calls Tryd.prog 24 #[.agg (bv s), .agg (bv d)] w fun e w' => ∃ x, e = .returned x ∧ Below w.heap.size w w' ∧ Ow w' w.heap.size 5 1 x (C 133).length (bl (C 133)) := by
  have CS := Lib.hid hCS
  have CD := Lib.hid hCD
  have CX := Lib.hid hCX
  have CH := Lib.hid hCH
  have HC := Lib.hid hC
  have HCL := Lib.hid hCl
  have HL := Lib.hid hL
  have HX := Lib.hid hX
  have HDL := Lib.hid hdl
  have HDG := Lib.hid hdg
  have HSL := Lib.hid hS
  have HC0 := Lib.hid (show [] ++ S0 = C 0 from hC0.symm)
  have HC0L := Lib.hid (show 0 + 32 = (C 0).length by rw [hCl])
  have hc0 : (C 0).length ≤ 33 := by rw [hCl]; omega
  have HS0 := Sep.start w
  clear hCS hCD hCX hCH hC0 hC hCl hL hX hdg hS hdl
  go_enter Tryd.func24, Tryd.ntmps24
  go_wp2_with (first | refine wl_bx HS0 rfl 23 _ rfl (bv s) rfl ?_)
  intro g1 w1 HS1
  go_wp2_with (first | refine wl_bx HS1 rfl 23 _ rfl (bv d) rfl ?_)
  intro g2 w2 HS2
  clear HS0 HS1
  go_wp2_with (first | refine wl_ld HS2 1 rfl rfl 23 _ rfl rfl Tryd.underlying23 rfl (dgS hs) ?_)
  refine Calls.mono (CS.out w2) ?_
  rintro e w3 ⟨rfl, b3⟩
  have HS3 := HS2.keep b3
  clear HS2
  go_wp2_with (first | refine wl_al HS3 rfl 23 rfl (bv (List.replicate 32 0)) (by kernel_rfl) ?_)
  intro g3 w4 HS4
  go_wp2_with (first | refine wl_st HS4 0 rfl rfl 23 _ _ rfl rfl rfl (dgS HSL.out) (dgE rfl HSL.out) (bv_one _) ?_)
  intro w5 HS5
  go_wp2_with (first | refine wl_ld HS5 1 rfl rfl 23 _ rfl rfl Tryd.underlying23 rfl (dgS hd) ?_)
  refine Calls.mono (CD.out w5) ?_
  rintro e w6 ⟨rfl, b6⟩
  have HS6 := HS5.keep b6
  clear HS5
  go_wp2_with (first | refine wl_al HS6 rfl 56 rfl (nv (List.replicate 133 0)) (by kernel_rfl) ?_)
  intro g4 w7 HS7
  go_wp2_with (first | refine wl_st HS7 0 rfl rfl 56 _ _ rfl rfl rfl (info_n133' dg HDL.out) (by rw [nv_size, nv_size, HDL.out]; rfl) (nv_one _) ?_)
  intro w8 HS8
  have HS9 := HS8.built #[] 5 0 1 rfl (by decide)
  clear HS3 HS4 HS6 HS7 HS8
  go_wp2_with (refine wl_apb (xs := []) HS9 0 rfl rfl rfl (Sep.rdRow HS9 2 rfl 32 HSL.out (by decide)) rfl rfl (C 0).length (C 0) HC0L.out HC0.out (by omega) ?_)
  intro va wa HSa _
  obtain ⟨Aa, ca, rfl, _⟩ := (HSa.own 0 rfl).sl
  clear HS9
  go_wp2
  go_loopw [7, 8] (fun s7 s8 wr => ∃ (n : Nat) (A : Option Addr) (c : Nat), n ≤ 133 ∧ s8 = .int .i64 n ∧ s7 = .slice A (C n).length c ∧ Sep w.heap.size w wr [.own (.slice A (C n).length c) 5 1 (C n).length (bl (C n)), .row g4 (nv dg) 56, .row g3 (bv S0) 23, .row g2 (bv d) 23, .row g1 (bv s) 23]) (fun _ s8 _ => 133 - (intOf s8).toNat)
  case atStart => exact ⟨0, _, _, by omega, rfl, rfl, HSa⟩
  case round =>
    clear HSa
    obtain ⟨n, A, c, hn, rfl, rfl, HSi⟩ := hrel
    by_cases hlt : n < 133
    · have hlt' : (n : Int) < 133 := by omega
      have HXL := Lib.hid (HX.out n)
      have HLL := Lib.hid (HL.out n)
      have HK := Lib.hid (nv_at dg n (K n) (HDG.out n hlt))
      have HC1 := Lib.hid (show (C n).length + 32 = (C (n + 1)).length by rw [← HC.out n, List.length_append, HL.out n])
      have hc1 : (C (n + 1)).length ≤ 5000 := by rw [HCL.out]; omega
      go_wp2_with (first | refine wl_ld HSi 4 rfl rfl 23 _ rfl rfl Tryd.underlying23 rfl (dgS hs) ?_)
      refine Calls.mono (CX.out wr n hlt) ?_
      rintro e wb ⟨rfl, bb⟩
      have HSb := HSi.keep bb
      clear HSi
      go_wp2_with (first | refine wl_al HSb rfl 23 rfl (bv (List.replicate 32 0)) (by kernel_rfl) ?_)
      intro g9 wc HSc
      go_wp2_with (first | refine wl_st HSc 0 rfl rfl 23 _ _ rfl rfl rfl (dgS HXL.out) (dgE rfl HXL.out) (bv_one _) ?_)
      intro wd HSd
      go_wp2
      refine Cop.region_ord (fun w' => Sep w.heap.size w w' [.row g9 (bv (X n)) 23, .row g4 (nv dg) 56, .row g3 (bv S0) 23]) 7 (.take 0 (.take 1 (.take 2 (.take 3 (.take 4 (.take 5 (.run 6 (.run 7 Cop.Ord.fin)))))))) (by kernel_rfl) (by kernel_rfl) (fun _ _ d _ _ h => by cases d <;> exact h) ?_
      intro we hde
      have HSe := HSd.keep hde
      have HTe : Sep w.heap.size w we [.row g9 (bv (X n)) 23, .row g4 (nv dg) 56, .row g3 (bv S0) 23] := HSe.sub (by repeat (first | exact List.nil_sublist _ | exact List.Sublist.refl _ | apply List.Sublist.cons_cons | apply List.Sublist.cons))
      clear HSb HSc HSd
      (repeat (first | (refine Cop.og_skip rfl rfl HTe _ (by (simp only [Act.put, List.setIfInBounds_toArray, List.set_cons_succ, List.set_cons_zero]; rfl)) ?_) | (refine Cop.og_ld rfl rfl HTe 23 _ rfl (.pointer (some ⟨g9, 0, none⟩)) rfl _ (fun w9 h9 => load_row (h9.row 0 rfl) 23 Tryd.underlying23 rfl (dgS HXL.out)) _ (by (simp only [Act.put, List.setIfInBounds_toArray, List.set_cons_succ, List.set_cons_zero]; rfl)) ?_) | (refine Cop.og_ld rfl rfl HTe 23 _ rfl (.pointer (some ⟨g3, 0, none⟩)) rfl _ (fun w9 h9 => load_row (h9.row 2 rfl) 23 Tryd.underlying23 rfl (dgS HSL.out)) _ (by (simp only [Act.put, List.setIfInBounds_toArray, List.set_cons_succ, List.set_cons_zero]; rfl)) ?_) | (refine Cop.og_take rfl rfl HTe ?_; apply Exists.intro; refine ⟨fun w9 h9 => ?_, _, by (simp only [Act.put, List.setIfInBounds_toArray, List.set_cons_succ, List.set_cons_zero]; rfl), ?_⟩; (have c0 := (row_cell (h9.row 1 rfl) n).trans HK.out; go_simp; with_reducible rfl))))
      refine Cop.og_run rfl rfl ?_
      refine ow_call 14 _ _ (fun w' => Below we.heap.size we w') (by go_simp) (CH.out we n hlt) ?_
      intro wf bf
      have HSf := HSe.keep bf
      have HTf := HTe.keep bf
      refine ⟨fun _ => HTf, ?_⟩
      (repeat (first | (refine Cop.og_skip rfl rfl HTf _ (by (simp only [Act.put, List.setIfInBounds_toArray, List.set_cons_succ, List.set_cons_zero]; rfl)) ?_) | (refine Cop.og_ld rfl rfl HTf 23 _ rfl (.pointer (some ⟨g9, 0, none⟩)) rfl _ (fun w9 h9 => load_row (h9.row 0 rfl) 23 Tryd.underlying23 rfl (dgS HXL.out)) _ (by (simp only [Act.put, List.setIfInBounds_toArray, List.set_cons_succ, List.set_cons_zero]; rfl)) ?_) | (refine Cop.og_ld rfl rfl HTf 23 _ rfl (.pointer (some ⟨g3, 0, none⟩)) rfl _ (fun w9 h9 => load_row (h9.row 2 rfl) 23 Tryd.underlying23 rfl (dgS HSL.out)) _ (by (simp only [Act.put, List.setIfInBounds_toArray, List.set_cons_succ, List.set_cons_zero]; rfl)) ?_) | (refine Cop.og_take rfl rfl HTf ?_; apply Exists.intro; refine ⟨fun w9 h9 => ?_, _, by (simp only [Act.put, List.setIfInBounds_toArray, List.set_cons_succ, List.set_cons_zero]; rfl), ?_⟩; (go_simp; with_reducible rfl))))
      refine Cop.og_run rfl rfl ?_
      refine ow_st HSf 0 rfl 23 _ _ rfl rfl rfl (dgS HLL.out) (dgE HXL.out HLL.out) (bv_one _) ?_
      intro wg HSg
      refine ⟨fun h => absurd rfl h, ?_⟩
      refine og_fin ?_
      clear HSe HSf HTe HTf
      go_wp2_with (refine wl_apb HSg 1 rfl rfl rfl (Sep.rdRow HSg 0 rfl 32 HLL.out (by decide)) rfl rfl (C (n + 1)).length (C (n + 1)) HC1.out (HC.out n) (by omega) ?_)
      intro v9 wh HSh _
      obtain ⟨A9, c9, rfl, _⟩ := (HSh.own 1 rfl).sl
      go_wp2
      go_roundw
      case rel => exact ⟨n + 1, A9, c9, by omega, by go_num, rfl, HSh.sub (by repeat (first | exact List.nil_sublist _ | exact List.Sublist.refl _ | apply List.Sublist.cons_cons | apply List.Sublist.cons))⟩
      case measure => simp [intOf]; omega
    · have hn2 : n = 133 := by omega
      subst hn2
      go_wp2
      go_ret
      exact ⟨_, rfl, HSi.hb, HSi.own 0 rfl⟩
theorem sign_b (s d : List UInt8) (w : World) (hs : s.length = 32) (hd : d.length = 32) :
    Calls Tryd.prog 24 #[.agg (bv s), .agg (bv d)] w fun e w' => ∃ x, e = .returned x ∧ Below w.heap.size w w' ∧ Ow w' w.heap.size 5 1 x (signD s d).length (bl (signD s d)) :=
  signB_gen s d (saltD s) (cats (saltD s) (linkD s d)) (linkD s d) (secretD s) (dgt d) (dgts d 133) w hs hd (saltD_length s) rfl (fun n => rfl) (fun n => by rw [cats_length _ _ (linkD_length s d), saltD_length]) (linkD_length s d) (secretD_length s) (dgts_length d 133) (fun n h => dgts_get d 133 n h)
    (fun w' => salt_b s w' hs) (fun w' => digits_b d hd w') (fun w' n h => childB_ok s [99, 104, 97, 105, 110] n w' hs (by decide) (by decide) (by omega))
    (fun w' n h => by
      have := refChain_b (saltD s) (secretD s n) n 0 (dgt d n) w' (saltD_length s) (secretD_length s n) (by omega) (by have := dgt_lt d n; omega)
      rw [Nat.zero_add] at this
      exact this)
set_option maxRecDepth 100000 in
set_option maxHeartbeats 4000000 in
theorem publicB_gen (s S0 P : List UInt8) (C L X : Nat → List UInt8) (w : World) (hs : s.length = 32) (hS : S0.length = 32) (hP : P.length = 32) (hC0 : [3] ++ S0 = C 0) (hC : ∀ n, C n ++ L n = C (n + 1)) (hCl : ∀ n, (C n).length = 33 + 32 * n)
    (hL : ∀ n, (L n).length = 32) (hX : ∀ n, (X n).length = 32)
    (hCS : ∀ w', Gives 43 #[.agg (bv s)] w' (.agg (bv S0)))
    (hCX : ∀ w' n, n < 133 → Gives 18 #[.agg (bv s), .string ⟨#[99, 104, 97, 105, 110]⟩, .int .i64 (n : Nat)] w' (.tuple #[.agg (bv (X n)), .int .i64 0]))
    (hCH : ∀ w' n, n < 133 → Gives 14 #[.agg (bv S0), .int .i64 (n : Nat), .int .i64 0, .int .i64 3, .agg (bv (X n))] w' (.agg (bv (L n))))
    (hCP : ∀ w' v, Rd w' v (C 133).length 1 (bl (C 133)) → Gives 28 #[v] w' (.agg (bv P))) :
    Gives 26 #[.agg (bv s)] w (.agg (bv P)) := by
  have CS := Lib.hid hCS
  have CX := Lib.hid hCX
  have CH := Lib.hid hCH
  have CQ := Lib.hid hCP
  have HC0 := Lib.hid hC0
  have HC := Lib.hid hC
  have HCL := Lib.hid hCl
  have HL := Lib.hid hL
  have HX := Lib.hid hX
  have HSL := Lib.hid hS
  have HPL := Lib.hid hP
  have HC0L := Lib.hid (show 1 + 32 = (C 0).length by rw [hCl])
  have hc0 : (C 0).length ≤ 33 := by rw [hCl]; omega
  have HS0 := Sep.start w
  clear hCS hCX hCH hC0 hC hCl hL hX hS hP hCP
  go_enter Tryd.func26, Tryd.ntmps26
  go_wp2_with (first | refine wl_bx HS0 rfl 23 _ rfl (bv s) rfl ?_)
  intro g1 w1 HS1
  go_wp2_with (first | refine wl_al HS1 rfl 23 rfl (bv (List.replicate 32 0)) (by kernel_rfl) ?_)
  intro g2 w2 HS2
  clear HS0 HS1
  go_wp2_with (first | refine wl_ld HS2 1 rfl rfl 23 _ rfl rfl Tryd.underlying23 rfl (dgS hs) ?_)
  refine Calls.mono (CS.out w2) ?_
  rintro e w3 ⟨rfl, b3⟩
  have HS3 := HS2.keep b3
  clear HS2
  go_wp2_with (first | refine wl_al HS3 rfl 23 rfl (bv (List.replicate 32 0)) (by kernel_rfl) ?_)
  intro g3 w4 HS4
  go_wp2_with (first | refine wl_st HS4 0 rfl rfl 23 _ _ rfl rfl rfl (dgS HSL.out) (dgE rfl HSL.out) (bv_one _) ?_)
  intro w5 HS5
  go_wp2_with (first | refine wl_bs HS5 rfl 33 5 1 1 _ rfl (bl [3]) (.int .u8 0) Tryd.underlying33 (by kernel_rfl) (by decide) (by decide) (by kernel_rfl) rfl ?_)
  intro g4 w6 HS6
  go_wp2_with (refine wl_apb (xs := [3]) HS6 0 rfl rfl rfl (Sep.rdRow HS6 1 rfl 32 HSL.out (by decide)) rfl rfl (C 0).length (C 0) HC0L.out HC0.out (by omega) ?_)
  intro v7 w7 HS7 _
  obtain ⟨A7, c7, rfl, _⟩ := (HS7.own 0 rfl).sl
  clear HS3 HS4 HS5 HS6
  go_wp2
  go_loopw [4, 5] (fun s4 s5 wr => ∃ (n : Nat) (A : Option Addr) (c : Nat), n ≤ 133 ∧ s5 = .int .i64 n ∧ s4 = .slice A (C n).length c ∧ Sep w.heap.size w wr [.own (.slice A (C n).length c) 5 1 (C n).length (bl (C n)), .row g3 (bv S0) 23, .row g2 (bv (List.replicate 32 0)) 23, .row g1 (bv s) 23]) (fun _ s5 _ => 133 - (intOf s5).toNat)
  case atStart => exact ⟨0, _, _, by omega, rfl, rfl, HS7⟩
  case round =>
    clear HS7
    obtain ⟨n, A, c, hn, rfl, rfl, HSi⟩ := hrel
    by_cases hlt : n < 133
    · have hlt' : (n : Int) < 133 := by omega
      have HXL := Lib.hid (HX.out n)
      have HLL := Lib.hid (HL.out n)
      have HC1 := Lib.hid (show (C n).length + 32 = (C (n + 1)).length by rw [← HC.out n, List.length_append, HL.out n])
      have hc1 : (C (n + 1)).length ≤ 5000 := by rw [HCL.out]; omega
      go_wp2_with (first | refine wl_ld HSi 3 rfl rfl 23 _ rfl rfl Tryd.underlying23 rfl (dgS hs) ?_)
      refine Calls.mono (CX.out wr n hlt) ?_
      rintro e wb ⟨rfl, bb⟩
      have HSb := HSi.keep bb
      clear HSi
      go_wp2_with (first | refine wl_al HSb rfl 23 rfl (bv (List.replicate 32 0)) (by kernel_rfl) ?_)
      intro g9 wc HSc
      go_wp2_with (first | refine wl_st HSc 0 rfl rfl 23 _ _ rfl rfl rfl (dgS HXL.out) (dgE rfl HXL.out) (bv_one _) ?_)
      intro wd HSd
      go_wp2_with (first | refine wl_ld HSd 2 rfl rfl 23 _ rfl rfl Tryd.underlying23 rfl (dgS HSL.out) ?_ | refine wl_ld HSd 0 rfl rfl 23 _ rfl rfl Tryd.underlying23 rfl (dgS HXL.out) ?_)
      refine Calls.mono (CH.out wd n hlt) ?_
      rintro e we ⟨rfl, be⟩
      have HSe := HSd.keep be
      clear HSd
      go_wp2_with (first | refine wl_st HSe 0 rfl rfl 23 _ _ rfl rfl rfl (dgS HLL.out) (dgE HXL.out HLL.out) (bv_one _) ?_)
      intro wg HSg
      clear HSb HSc HSe
      go_wp2_with (refine wl_apb HSg 1 rfl rfl rfl (Sep.rdRow HSg 0 rfl 32 HLL.out (by decide)) rfl rfl (C (n + 1)).length (C (n + 1)) HC1.out (HC.out n) (by omega) ?_)
      intro v9 wh HSh _
      obtain ⟨A9, c9, rfl, _⟩ := (HSh.own 1 rfl).sl
      go_wp2
      go_roundw
      case rel => exact ⟨n + 1, A9, c9, by omega, by go_num, rfl, HSh.sub (by repeat (first | exact List.nil_sublist _ | exact List.Sublist.refl _ | apply List.Sublist.cons_cons | apply List.Sublist.cons))⟩
      case measure => simp [intOf]; omega
    · have hn2 : n = 133 := by omega
      subst hn2
      go_wp2_with fail
      refine Calls.mono (CQ.out wr _ (HSi.own 0 rfl).rd) ?_
      rintro e wx ⟨rfl, bx⟩
      have HSx := HSi.keep bx
      clear HSi
      go_wp2_with (first | refine wl_st HSx 2 rfl rfl 23 _ _ rfl rfl rfl (dgS HPL.out) (dgE rfl HPL.out) (bv_one _) ?_)
      intro wy HSy
      go_wp2_with fail
      exact ret_row rfl rfl g2 rfl 23 (bv P) (0, 0) _ (HSy.row 2 rfl) Tryd.underlying23 rfl (dgS HPL.out) ⟨rfl, HSy.hb⟩
theorem public_b (s : List UInt8) (w : World) (hs : s.length = 32) : Gives 26 #[.agg (bv s)] w (.agg (bv (publicD s))) := by
  have hl : ∀ n, (cats ([3] ++ saltD s) (endD s) n).length = 33 + 32 * n := fun n => by rw [cats_length _ _ (endD_length s), List.length_append, saltD_length]; rfl
  refine publicB_gen s (saltD s) (publicD s) (cats ([3] ++ saltD s) (endD s)) (endD s) (secretD s) w hs (saltD_length s) (publicD_length s) rfl (fun n => rfl) hl (endD_length s) (secretD_length s)
    (fun w' => salt_b s w' hs) (fun w' n h => childB_ok s [99, 104, 97, 105, 110] n w' hs (by decide) (by decide) (by omega))
    (fun w' n h => refChain_b (saltD s) (secretD s n) n 0 3 w' (saltD_length s) (secretD_length s n) (by omega) (by omega))
    (fun w' v hR => sum_b _ v w' hR (by rw [hl]; omega))
end Go.Proofs.YtkgdjddcnlkppaaDoor
