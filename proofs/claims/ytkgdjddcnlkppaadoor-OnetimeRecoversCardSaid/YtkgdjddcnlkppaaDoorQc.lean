/- Sign and Public of one-time signatures. -/
import Derived.Test.YtkgdjddcnlkppaaDoorQb
import Derived.Test.YtkgdjddcnlkppaaDoorPi
import Derived.Test.YtkgdjddcnlkppaaDoorOc
namespace Go.Proofs.YtkgdjddcnlkppaaDoor
open Go.RowKit Cop
set_option linter.unusedVariables false
set_option linter.unusedSimpArgs false
theorem nv_at (l : List Nat) (i x : Nat) (h : l[i]? = some x) : (nv l)[i]? = some (.int .i64 (x : Int)) := by simp [nv, h]
set_option maxRecDepth 100000 in
set_option maxHeartbeats 4000000 in
theorem sign_gen (s d S0 : List UInt8) (C L X : Nat → List UInt8) (K : Nat → Nat) (dg : List Nat) (w : World) (hs : s.length = 32) (hd : d.length = 32) (hS : S0.length = 32) (hC0 : C 0 = S0) (hC : ∀ n, C n ++ L n = C (n + 1)) (hCl : ∀ n, (C n).length = 32 + 32 * n)
    (hL : ∀ n, (L n).length = 32) (hX : ∀ n, (X n).length = 32) (hdg : ∀ n, n < 133 → dg[n]? = some (K n))
    (hCS : ∀ w', Below w.heap.size w w' → Gives 41 #[.agg (bv s)] w' (.agg (bv S0)))
    (hCD : ∀ w', Gives 30 #[.agg (bv d)] w' (.agg (nv dg)))
    (hCX : ∀ w' n, Below w.heap.size w w' → n < 133 → Gives 42 #[.agg (bv s), .int .i64 (n : Nat)] w' (.agg (bv (X n))))
    (hCH : ∀ w' n, Below w.heap.size w w' → n < 133 → Gives 27 #[.agg (bv S0), .int .i64 (n : Nat), .int .i64 0, .int .i64 (K n : Nat), .agg (bv (X n))] w' (.agg (bv (L n)))) :
    Calls Tryd.prog 23 #[.agg (bv s), .agg (bv d)] w fun e w' => ∃ x, e = .returned x ∧ Below w.heap.size w w' ∧ Ow w' w.heap.size 5 1 x (C 133).length (bl (C 133)) := by
  have CS := Lib.hid hCS
  have CD := Lib.hid hCD
  have CX := Lib.hid hCX
  have CH := Lib.hid hCH
  have HC0 := Lib.hid hC0
  have HC := Lib.hid hC
  have HCL := Lib.hid hCl
  have HL := Lib.hid hL
  have HX := Lib.hid hX
  have HDG := Lib.hid hdg
  have HSL := Lib.hid hS
  have HS0 := Sep.start w
  clear hCS hCD hCX hCH hC0 hC hCl hL hX hdg hS
  go_enter Tryd.func23, Tryd.ntmps23
  go_wp2_with (first | refine wl_bx HS0 rfl 23 _ rfl (bv s) rfl ?_)
  intro g1 w1 HS1
  go_wp2_with (first | refine wl_bx HS1 rfl 23 _ rfl (bv d) rfl ?_)
  intro g2 w2 HS2
  clear HS0 HS1
  go_wp2_with (first | refine wl_ld HS2 1 rfl rfl 23 _ rfl rfl Tryd.underlying23 rfl (dgS hs) ?_)
  refine Calls.mono (CS.out w2 HS2.hb) ?_
  rintro e w3 ⟨rfl, b3⟩
  have HS3 := HS2.keep b3
  clear HS2
  go_wp2_with (first | refine wl_al HS3 rfl 23 rfl (bv (List.replicate 32 0)) (by kernel_rfl) ?_)
  intro g3 w4 HS4
  go_wp2_with (first | refine wl_st HS4 0 rfl rfl 23 _ _ rfl rfl rfl (dgS HSL.out) (dgE rfl HSL.out) (bv_one _) ?_)
  intro w5 HS5
  go_wp2_with (first | refine wl_ld HS5 1 rfl rfl 23 _ rfl rfl Tryd.underlying23 rfl (dgS hd) ?_)
  refine Calls.mono (CD.out w5) ?_
  rintro e w6 ⟨rfl, b6⟩
  have HS6 := HS5.keep b6
  clear HS5
  have HS7 := HS6.rowRd 0 rfl 32 HSL.out (by decide)
  have HS8 := HS7.dup 0 rfl
  clear HS3 HS4 HS6 HS7
  go_wp2
  go_loopw [6, 14] (fun s6 s14 wr => ∃ (n : Nat) (x : Value), n ≤ 133 ∧ s14 = .int .i64 n ∧ s6 = x ∧ Sep w.heap.size w wr [.rd x (C n).length 1 (bl (C n)), .rd (.slice (some ⟨g3, 0, none⟩) 32 32) 32 1 (bl S0), .row g2 (bv d) 23, .row g1 (bv s) 23] ∧ (0 < n → Ow wr w.heap.size 5 1 x (C n).length (bl (C n)))) (fun _ s14 _ => 133 - (intOf s14).toNat)
  case atStart => exact ⟨0, _, by omega, rfl, rfl, by rw [HC0.out, HSL.out]; exact HS8, fun h => absurd h (by omega)⟩
  case round =>
    clear HS8
    obtain ⟨n, x, hn, rfl, rfl, HSi, hOw⟩ := hrel
    by_cases hlt : n < 133
    · have hlt' : (n : Int) < 133 := by omega
      have CP := Lib.hid (fun w' hR => putDigest_a (C n) (L n) u6 w' hR (HL.out n) (by have := HCL.out n; omega))
      rw [HC.out n] at CP
      have HXL := Lib.hid (HX.out n)
      clear hOw
      go_wp2_with (refine wl_ix rfl 56 _ _ rfl (nv dg) rfl .i64 n rfl Tryd.underlying56 Tryd.underlying3 (by kernel_rfl) (.int .i64 (K n : Nat)) hlt (nv_at dg n (K n) (HDG.out n hlt)) ?_)
      go_wp2
      refine Cop.region_ord (fun w' => Sep w.heap.size w w' [.rd (.slice (some ⟨g3, 0, none⟩) 32 32) 32 1 (bl S0), .row g1 (bv s) 23]) 9 (.take 0 (.take 1 (.take 2 (.take 3 (.take 4 (.take 5 (.run 6 (.run 7 (.run 8 (.take 9 Cop.Ord.fin)))))))))) (by kernel_rfl) (by kernel_rfl) (fun _ _ d _ _ h => by cases d <;> exact h) ?_
      intro wa hda
      have HSa := HSi.keep hda
      have HTa : Sep w.heap.size w wa [.rd (.slice (some ⟨g3, 0, none⟩) 32 32) 32 1 (bl S0), .row g1 (bv s) 23] := HSa.sub (by repeat (first | exact List.nil_sublist _ | exact List.Sublist.refl _ | apply List.Sublist.cons_cons | apply List.Sublist.cons))
      clear HSi
      (repeat (first | (refine Cop.og_skip rfl rfl HTa _ (by (simp only [Act.put, List.setIfInBounds_toArray, List.set_cons_succ, List.set_cons_zero]; rfl)) ?_) | (refine Cop.og_ld rfl rfl HTa 23 _ rfl (.pointer (some ⟨g3, 0, none⟩)) rfl (.agg (bv S0)) (fun w9 h9 => load_rd (h9.rd 0 rfl) rfl 32 (Nat.le_refl _) (by decide) (bv S0) (dgT HSL.out) 23 Tryd.underlying23 rfl (dgS HSL.out)) _ (by (simp only [Act.put, List.setIfInBounds_toArray, List.set_cons_succ, List.set_cons_zero]; rfl)) ?_) | (refine Cop.og_ld rfl rfl HTa 23 _ rfl (.pointer (some ⟨g1, 0, none⟩)) rfl _ (fun w9 h9 => load_row (h9.row 1 rfl) 23 Tryd.underlying23 rfl (dgS hs)) _ (by (simp only [Act.put, List.setIfInBounds_toArray, List.set_cons_succ, List.set_cons_zero]; rfl)) ?_) | (refine Cop.og_take rfl rfl HTa ?_; apply Exists.intro; refine ⟨fun w9 h9 => ?_, _, by (simp only [Act.put, List.setIfInBounds_toArray, List.set_cons_succ, List.set_cons_zero]; rfl), ?_⟩; (go_simp; with_reducible rfl))))
      refine Cop.og_run rfl rfl ?_
      refine ow_call 42 _ _ (fun w' => Below wa.heap.size wa w') (by go_simp) (CX.out wa n HSa.hb hlt) ?_
      intro wb bb
      have HSb := HSa.keep bb
      have HTb := HTa.keep bb
      refine ⟨fun _ => HTb, ?_⟩
      (repeat (first | (refine Cop.og_skip rfl rfl HTb _ (by (simp only [Act.put, List.setIfInBounds_toArray, List.set_cons_succ, List.set_cons_zero]; rfl)) ?_) | (refine Cop.og_ld rfl rfl HTb 23 _ rfl (.pointer (some ⟨g3, 0, none⟩)) rfl (.agg (bv S0)) (fun w9 h9 => load_rd (h9.rd 0 rfl) rfl 32 (Nat.le_refl _) (by decide) (bv S0) (dgT HSL.out) 23 Tryd.underlying23 rfl (dgS HSL.out)) _ (by (simp only [Act.put, List.setIfInBounds_toArray, List.set_cons_succ, List.set_cons_zero]; rfl)) ?_) | (refine Cop.og_ld rfl rfl HTb 23 _ rfl (.pointer (some ⟨g1, 0, none⟩)) rfl _ (fun w9 h9 => load_row (h9.row 1 rfl) 23 Tryd.underlying23 rfl (dgS hs)) _ (by (simp only [Act.put, List.setIfInBounds_toArray, List.set_cons_succ, List.set_cons_zero]; rfl)) ?_) | (refine Cop.og_take rfl rfl HTb ?_; apply Exists.intro; refine ⟨fun w9 h9 => ?_, _, by (simp only [Act.put, List.setIfInBounds_toArray, List.set_cons_succ, List.set_cons_zero]; rfl), ?_⟩; (go_simp; with_reducible rfl))))
      refine Cop.og_run rfl rfl ?_
      refine ow_call 27 _ _ (fun w' => Below wb.heap.size wb w') (by go_simp) (CH.out wb n HSb.hb hlt) ?_
      intro wc bc
      have HSc := HSb.keep bc
      have HTc := HTb.keep bc
      refine ⟨fun _ => HTc, ?_⟩
      (repeat (first | (refine Cop.og_skip rfl rfl HTc _ (by (simp only [Act.put, List.setIfInBounds_toArray, List.set_cons_succ, List.set_cons_zero]; rfl)) ?_) | (refine Cop.og_ld rfl rfl HTc 23 _ rfl (.pointer (some ⟨g3, 0, none⟩)) rfl (.agg (bv S0)) (fun w9 h9 => load_rd (h9.rd 0 rfl) rfl 32 (Nat.le_refl _) (by decide) (bv S0) (dgT HSL.out) 23 Tryd.underlying23 rfl (dgS HSL.out)) _ (by (simp only [Act.put, List.setIfInBounds_toArray, List.set_cons_succ, List.set_cons_zero]; rfl)) ?_) | (refine Cop.og_ld rfl rfl HTc 23 _ rfl (.pointer (some ⟨g1, 0, none⟩)) rfl _ (fun w9 h9 => load_row (h9.row 1 rfl) 23 Tryd.underlying23 rfl (dgS hs)) _ (by (simp only [Act.put, List.setIfInBounds_toArray, List.set_cons_succ, List.set_cons_zero]; rfl)) ?_) | (refine Cop.og_take rfl rfl HTc ?_; apply Exists.intro; refine ⟨fun w9 h9 => ?_, _, by (simp only [Act.put, List.setIfInBounds_toArray, List.set_cons_succ, List.set_cons_zero]; rfl), ?_⟩; (go_simp; with_reducible rfl))))
      refine Cop.og_run rfl rfl ?_
      refine ow_call_ex 31 _ (fun x w' => Below wc.heap.size wc w' ∧ Ow w' wc.heap.size 5 1 x (C (n + 1)).length (bl (C (n + 1)))) (by go_simp) (CP.out wc (HSc.rd 0 rfl)) ?_
      rintro v9 wd ⟨bd, od⟩
      have HSd := HSc.made bd od
      have HSe := HSd.toRd 0 rfl
      have HTd := HTc.keep bd
      refine ⟨fun _ => HTd, ?_⟩
      (repeat (first | (refine Cop.og_skip rfl rfl HTd _ (by (simp only [Act.put, List.setIfInBounds_toArray, List.set_cons_succ, List.set_cons_zero]; rfl)) ?_) | (refine Cop.og_take rfl rfl HTd ?_; apply Exists.intro; refine ⟨fun w9 h9 => ?_, _, by (simp only [Act.put, List.setIfInBounds_toArray, List.set_cons_succ, List.set_cons_zero]; rfl), ?_⟩; (go_simp; with_reducible rfl))))
      refine og_fin ?_
      go_wp2
      go_roundw
      case rel => exact ⟨n + 1, v9, by omega, by go_num, rfl, HSe.sub (by repeat (first | exact List.nil_sublist _ | exact List.Sublist.refl _ | apply List.Sublist.cons_cons | apply List.Sublist.cons)), fun _ => HSd.own 0 rfl⟩
      case measure => simp [intOf]; omega
    · have hn2 : n = 133 := by omega
      subst hn2
      go_wp2
      go_ret
      exact ⟨_, rfl, HSi.hb, hOw (by omega)⟩
theorem sign_a (s d : List UInt8) (w : World) (hT : Tab w) (hs : s.length = 32) (hd : d.length = 32) :
    Calls Tryd.prog 23 #[.agg (bv s), .agg (bv d)] w fun e w' => ∃ x, e = .returned x ∧ Below w.heap.size w w' ∧ Ow w' w.heap.size 5 1 x (signD s d).length (bl (signD s d)) :=
  sign_gen s d (saltD s) (cats (saltD s) (linkD s d)) (linkD s d) (secretD s) (dgt d) (dgts d 133) w hs hd (saltD_length s) rfl (fun n => rfl) (fun n => by rw [cats_length _ _ (linkD_length s d), saltD_length]) (linkD_length s d) (secretD_length s) (fun n h => dgts_get d 133 n h)
    (fun w' hb => salted_a s w' (hT.below hb) hs) (fun w' => digits_a d hd w') (fun w' n hb h => secret_a s n w' (hT.below hb) hs (by omega))
    (fun w' n hb h => by
      have := chain_a (saltD s) (secretD s n) n 0 (dgt d n) w' (hT.below hb) (saltD_length s) (secretD_length s n) (by omega) (by have := dgt_lt d n; omega)
      rw [Nat.zero_add] at this
      exact this)
set_option maxRecDepth 100000 in
set_option maxHeartbeats 4000000 in
theorem public_gen (s S0 P : List UInt8) (C L X : Nat → List UInt8) (w : World) (hs : s.length = 32) (hS : S0.length = 32) (hP : P.length = 32) (hC0 : [3] ++ S0 = C 0) (hC : ∀ n, C n ++ L n = C (n + 1)) (hCl : ∀ n, (C n).length = 33 + 32 * n)
    (hL : ∀ n, (L n).length = 32) (hX : ∀ n, (X n).length = 32)
    (hCS : ∀ w', Below w.heap.size w w' → Gives 41 #[.agg (bv s)] w' (.agg (bv S0)))
    (hCX : ∀ w' n, Below w.heap.size w w' → n < 133 → Gives 42 #[.agg (bv s), .int .i64 (n : Nat)] w' (.agg (bv (X n))))
    (hCH : ∀ w' n, Below w.heap.size w w' → n < 133 → Gives 27 #[.agg (bv S0), .int .i64 (n : Nat), .int .i64 0, .int .i64 3, .agg (bv (X n))] w' (.agg (bv (L n))))
    (hCP : ∀ w' v, Below w.heap.size w w' → Rd w' v (C 133).length 1 (bl (C 133)) → Gives 32 #[v] w' (.agg (bv P))) :
    Gives 25 #[.agg (bv s)] w (.agg (bv P)) := by
  have CS := Lib.hid hCS
  have CX := Lib.hid hCX
  have CH := Lib.hid hCH
  have CQ := Lib.hid hCP
  have HC0 := Lib.hid hC0
  have HC := Lib.hid hC
  have HCL := Lib.hid hCl
  have HL := Lib.hid hL
  have HX := Lib.hid hX
  have HSL := Lib.hid hS
  have HPL := Lib.hid hP
  have HC0L := Lib.hid (show 1 + 32 = (C 0).length by rw [hCl])
  have hc0 : (C 0).length ≤ 33 := by rw [hCl]; omega
  have HS0 := Sep.start w
  clear hCS hCX hCH hC0 hC hCl hL hX hS hP hCP
  go_enter Tryd.func25, Tryd.ntmps25
  go_wp2_with (first | refine wl_bx HS0 rfl 23 _ rfl (bv s) rfl ?_)
  intro g1 w1 HS1
  go_wp2_with (first | refine wl_al HS1 rfl 23 rfl (bv (List.replicate 32 0)) (by kernel_rfl) ?_)
  intro g2 w2 HS2
  clear HS0 HS1
  go_wp2_with (first | refine wl_ld HS2 1 rfl rfl 23 _ rfl rfl Tryd.underlying23 rfl (dgS hs) ?_)
  refine Calls.mono (CS.out w2 HS2.hb) ?_
  rintro e w3 ⟨rfl, b3⟩
  have HS3 := HS2.keep b3
  clear HS2
  go_wp2_with (first | refine wl_al HS3 rfl 23 rfl (bv (List.replicate 32 0)) (by kernel_rfl) ?_)
  intro g3 w4 HS4
  go_wp2_with (first | refine wl_st HS4 0 rfl rfl 23 _ _ rfl rfl rfl (dgS HSL.out) (dgE rfl HSL.out) (bv_one _) ?_)
  intro w5 HS5
  go_wp2_with (first | refine wl_bs HS5 rfl 33 5 1 1 _ rfl (bl [3]) (.int .u8 0) Tryd.underlying33 (by kernel_rfl) (by decide) (by decide) (by kernel_rfl) rfl ?_)
  intro g4 w6 HS6
  go_wp2_with (refine wl_apb (xs := [3]) HS6 0 rfl rfl rfl (Sep.rdRow HS6 1 rfl 32 HSL.out (by decide)) rfl rfl (C 0).length (C 0) HC0L.out HC0.out (by omega) ?_)
  intro v7 w7 HS7 _
  obtain ⟨A7, c7, rfl, _⟩ := (HS7.own 0 rfl).sl
  clear HS3 HS4 HS5 HS6
  go_wp2
  go_loopw [4, 11] (fun s4 s11 wr => ∃ (n : Nat) (A : Option Addr) (c : Nat), n ≤ 133 ∧ s11 = .int .i64 n ∧ s4 = .slice A (C n).length c ∧ Sep w.heap.size w wr [.own (.slice A (C n).length c) 5 1 (C n).length (bl (C n)), .row g3 (bv S0) 23, .row g2 (bv (List.replicate 32 0)) 23, .row g1 (bv s) 23]) (fun _ s11 _ => 133 - (intOf s11).toNat)
  case atStart => exact ⟨0, _, _, by omega, rfl, rfl, HS7⟩
  case round =>
    clear HS7
    obtain ⟨n, A, c, hn, rfl, rfl, HSi⟩ := hrel
    by_cases hlt : n < 133
    · have hlt' : (n : Int) < 133 := by omega
      have CP := Lib.hid (fun w' v hR => putDigest_a (C n) (L n) v w' hR (HL.out n) (by have := HCL.out n; omega))
      rw [HC.out n] at CP
      go_wp2
      refine Cop.region_ord (fun w' => Sep w.heap.size w w' [.row g3 (bv S0) 23, .row g1 (bv s) 23]) 8 (.take 0 (.take 1 (.take 2 (.take 3 (.take 4 (.run 5 (.run 6 (.run 7 (.take 8 Cop.Ord.fin))))))))) (by kernel_rfl) (by kernel_rfl) (fun _ _ d _ _ h => by cases d <;> exact h) ?_
      intro wa hda
      have HSa := HSi.keep hda
      have HTa : Sep w.heap.size w wa [.row g3 (bv S0) 23, .row g1 (bv s) 23] := HSa.sub (by repeat (first | exact List.nil_sublist _ | exact List.Sublist.refl _ | apply List.Sublist.cons_cons | apply List.Sublist.cons))
      clear HSi
      (repeat (first | (refine Cop.og_skip rfl rfl HTa _ (by (simp only [Act.put, List.setIfInBounds_toArray, List.set_cons_succ, List.set_cons_zero]; rfl)) ?_) | (refine Cop.og_ld rfl rfl HTa 23 _ rfl (.pointer (some ⟨g3, 0, none⟩)) rfl _ (fun w9 h9 => load_row (h9.row 0 rfl) 23 Tryd.underlying23 rfl (dgS HSL.out)) _ (by (simp only [Act.put, List.setIfInBounds_toArray, List.set_cons_succ, List.set_cons_zero]; rfl)) ?_) | (refine Cop.og_ld rfl rfl HTa 23 _ rfl (.pointer (some ⟨g1, 0, none⟩)) rfl _ (fun w9 h9 => load_row (h9.row 1 rfl) 23 Tryd.underlying23 rfl (dgS hs)) _ (by (simp only [Act.put, List.setIfInBounds_toArray, List.set_cons_succ, List.set_cons_zero]; rfl)) ?_) | (refine Cop.og_take rfl rfl HTa ?_; apply Exists.intro; refine ⟨fun w9 h9 => ?_, _, by (simp only [Act.put, List.setIfInBounds_toArray, List.set_cons_succ, List.set_cons_zero]; rfl), ?_⟩; (go_simp; with_reducible rfl))))
      refine Cop.og_run rfl rfl ?_
      refine ow_call 42 _ _ (fun w' => Below wa.heap.size wa w') (by go_simp) (CX.out wa n HSa.hb hlt) ?_
      intro wb bb
      have HSb := HSa.keep bb
      have HTb := HTa.keep bb
      refine ⟨fun _ => HTb, ?_⟩
      (repeat (first | (refine Cop.og_skip rfl rfl HTb _ (by (simp only [Act.put, List.setIfInBounds_toArray, List.set_cons_succ, List.set_cons_zero]; rfl)) ?_) | (refine Cop.og_ld rfl rfl HTb 23 _ rfl (.pointer (some ⟨g3, 0, none⟩)) rfl _ (fun w9 h9 => load_row (h9.row 0 rfl) 23 Tryd.underlying23 rfl (dgS HSL.out)) _ (by (simp only [Act.put, List.setIfInBounds_toArray, List.set_cons_succ, List.set_cons_zero]; rfl)) ?_) | (refine Cop.og_ld rfl rfl HTb 23 _ rfl (.pointer (some ⟨g1, 0, none⟩)) rfl _ (fun w9 h9 => load_row (h9.row 1 rfl) 23 Tryd.underlying23 rfl (dgS hs)) _ (by (simp only [Act.put, List.setIfInBounds_toArray, List.set_cons_succ, List.set_cons_zero]; rfl)) ?_) | (refine Cop.og_take rfl rfl HTb ?_; apply Exists.intro; refine ⟨fun w9 h9 => ?_, _, by (simp only [Act.put, List.setIfInBounds_toArray, List.set_cons_succ, List.set_cons_zero]; rfl), ?_⟩; (go_simp; with_reducible rfl))))
      refine Cop.og_run rfl rfl ?_
      refine ow_call 27 _ _ (fun w' => Below wb.heap.size wb w') (by go_simp) (CH.out wb n HSb.hb hlt) ?_
      intro wc bc
      have HSc := HSb.keep bc
      have HTc := HTb.keep bc
      refine ⟨fun _ => HTc, ?_⟩
      (repeat (first | (refine Cop.og_skip rfl rfl HTc _ (by (simp only [Act.put, List.setIfInBounds_toArray, List.set_cons_succ, List.set_cons_zero]; rfl)) ?_) | (refine Cop.og_ld rfl rfl HTc 23 _ rfl (.pointer (some ⟨g3, 0, none⟩)) rfl _ (fun w9 h9 => load_row (h9.row 0 rfl) 23 Tryd.underlying23 rfl (dgS HSL.out)) _ (by (simp only [Act.put, List.setIfInBounds_toArray, List.set_cons_succ, List.set_cons_zero]; rfl)) ?_) | (refine Cop.og_ld rfl rfl HTc 23 _ rfl (.pointer (some ⟨g1, 0, none⟩)) rfl _ (fun w9 h9 => load_row (h9.row 1 rfl) 23 Tryd.underlying23 rfl (dgS hs)) _ (by (simp only [Act.put, List.setIfInBounds_toArray, List.set_cons_succ, List.set_cons_zero]; rfl)) ?_) | (refine Cop.og_take rfl rfl HTc ?_; apply Exists.intro; refine ⟨fun w9 h9 => ?_, _, by (simp only [Act.put, List.setIfInBounds_toArray, List.set_cons_succ, List.set_cons_zero]; rfl), ?_⟩; (go_simp; with_reducible rfl))))
      refine Cop.og_run rfl rfl ?_
      refine ow_call_ex 31 _ (fun x w' => Below wc.heap.size wc w' ∧ Ow w' wc.heap.size 5 1 x (C (n + 1)).length (bl (C (n + 1)))) (by go_simp) (CP.out wc _ (HSc.own 0 rfl).rd) ?_
      rintro v9 wd ⟨bd, od⟩
      have HSd := HSc.made bd od
      obtain ⟨A9, c9, rfl, _⟩ := (HSd.own 0 rfl).sl
      have HTd := HTc.keep bd
      refine ⟨fun _ => HTd, ?_⟩
      (repeat (first | (refine Cop.og_skip rfl rfl HTd _ (by (simp only [Act.put, List.setIfInBounds_toArray, List.set_cons_succ, List.set_cons_zero]; rfl)) ?_) | (refine Cop.og_take rfl rfl HTd ?_; apply Exists.intro; refine ⟨fun w9 h9 => ?_, _, by (simp only [Act.put, List.setIfInBounds_toArray, List.set_cons_succ, List.set_cons_zero]; rfl), ?_⟩; (go_simp; with_reducible rfl))))
      refine og_fin ?_
      go_wp2
      go_roundw
      case rel => exact ⟨n + 1, A9, c9, by omega, by go_num, rfl, HSd.sub (by repeat (first | exact List.nil_sublist _ | exact List.Sublist.refl _ | apply List.Sublist.cons_cons | apply List.Sublist.cons))⟩
      case measure => simp [intOf]; omega
    · have hn2 : n = 133 := by omega
      subst hn2
      go_wp2_with fail
      refine Calls.mono (CQ.out wr _ HSi.hb (HSi.own 0 rfl).rd) ?_
      rintro e wx ⟨rfl, bx⟩
      have HSx := HSi.keep bx
      clear HSi
      go_wp2_with (first | refine wl_st HSx 2 rfl rfl 23 _ _ rfl rfl rfl (dgS HPL.out) (dgE rfl HPL.out) (bv_one _) ?_)
      intro wy HSy
      go_wp2_with fail
      exact ret_row rfl rfl g2 rfl 23 (bv P) (0, 0) _ (HSy.row 2 rfl) Tryd.underlying23 rfl (dgS HPL.out) ⟨rfl, HSy.hb⟩
theorem public_a (s : List UInt8) (w : World) (hT : Tab w) (hs : s.length = 32) : Gives 25 #[.agg (bv s)] w (.agg (bv (publicD s))) := by
  have hl : ∀ n, (cats ([3] ++ saltD s) (endD s) n).length = 33 + 32 * n := fun n => by rw [cats_length _ _ (endD_length s), List.length_append, saltD_length]; rfl
  refine public_gen s (saltD s) (publicD s) (cats ([3] ++ saltD s) (endD s)) (endD s) (secretD s) w hs (saltD_length s) (publicD_length s) rfl (fun n => rfl) hl (endD_length s) (secretD_length s)
    (fun w' hb => salted_a s w' (hT.below hb) hs) (fun w' n hb h => secret_a s n w' (hT.below hb) hs (by omega))
    (fun w' n hb h => chain_a (saltD s) (secretD s n) n 0 3 w' (hT.below hb) (saltD_length s) (secretD_length s n) (by omega) (by omega))
    (fun w' v hb hR => sum_a _ v w' (hT.below hb) hR (by rw [hl]; omega))
end Go.Proofs.YtkgdjddcnlkppaaDoor
