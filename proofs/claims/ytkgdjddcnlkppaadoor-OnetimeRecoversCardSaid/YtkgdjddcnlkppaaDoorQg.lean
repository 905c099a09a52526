/- Proved here: any bytes as a signature of any digest lead to the document's public key, or are refused. The table of constants is tied to the program's text. No condition. -/
import Derived.Test.YtkgdjddcnlkppaaDoorQe
import Derived.Test.YtkgdjddcnlkppaaDoorFOnetimeRecovers
namespace Go.Proofs.YtkgdjddcnlkppaaDoor
open Go.RowKit Cop
set_option linter.unusedVariables false
set_option linter.unusedSimpArgs false
theorem names_19g (w : World) : Calls Tryd.prog 13 #[] w fun e w' => e = .returned (.bool true) ∧ w = w' := by
  go_enter Tryd.func13, Tryd.ntmps13
  go_wp2
  go_ret
  exact ⟨rfl, rfl⟩
theorem recover_ab (d s : List UInt8) (w : World) (hT : Tab w) (hd : d.length = 32) : ∃ (X : List UInt8) (E : Int), X.length = 32 ∧
    (∀ w' v, Below w.heap.size w w' → Rd w' v s.length 1 (bl s) → Gives 15 #[.agg (bv d), v] w' (.tuple #[.agg (bv X), .int .i64 E])) ∧
    (∀ w' v, Rd w' v s.length 1 (bl s) → Gives 16 #[.agg (bv d), v] w' (.tuple #[.agg (bv X), .int .i64 E])) := by
  by_cases h : s.length = 4288
  · refine ⟨recoverD d s, 0, recoverD_length d s, fun w' v hb hR => recover_a d s v w' (hT.below hb) hd h (by rw [h] at hR; exact hR), fun w' v hR => recover_b d s v w' hd h (by rw [h] at hR; exact hR)⟩
  · refine ⟨List.replicate 32 0, 190, rfl, fun w' v hb hR => ?_, fun w' v hR => ?_⟩
    all_goals
      obtain ⟨A, c, rfl, h1, h2⟩ := hR.shape
      first | exact recoverNo_a d A _ c w' h (by omega) | exact recoverNo_b d A _ c w' h (by omega)
set_option maxRecDepth 100000 in
set_option maxHeartbeats 4000000 in
theorem onetimeRecovers_walk (d l : List UInt8) (v : Value) (w : World) (hT : Tab w) (hd : d.length = 32) (hR : Rd w v l.length 1 (bl l)) (hl : l.length ≤ 140737488351232) :
    Gives 5 #[.agg (bv d), v] w (.bool true) := by
  obtain ⟨X, E, hX, h1, h2⟩ := recover_ab d l w hT hd
  have CA := Lib.hid h1
  have CB := Lib.hid h2
  have HXL := Lib.hid hX
  have HEQ := Lib.hid (fun w' : World => run_equal_bv (P := Tryd.prog) w' (d := 9998) Tryd.underlying23 Tryd.underlying5 (by kernel_rfl) X X hX hX)
  have HS0 := (Sep.start w).arg0 hR
  obtain ⟨A, c, rfl, hc, hcm⟩ := hR.shape
  obtain ⟨L, hL⟩ : ∃ x, l ++ [90] = x := ⟨_, rfl⟩
  have hLl : L.length = l.length + 1 := by rw [← hL]; simp
  have hlL : l.length ≤ L.length := by omega
  have hl2 : L.length ≤ 140737488355328 := by omega
  have HL := Lib.hid hL
  have HLl := Lib.hid hLl
  clear hR hL hLl h1 h2 hX
  go_enter Tryd.func5, Tryd.ntmps5
  go_wp2_with (first | refine wl_bx HS0 rfl 23 _ rfl (bv d) rfl ?_)
  intro g1 w1 HS1
  have HS3 := HS1.built #[] 5 0 1 rfl (by decide)
  go_wp2_with (refine wl_apb (xs := []) HS3 0 rfl rfl rfl (HS3.rd 2 rfl) rfl rfl l.length l (by simp) rfl (by omega) ?_)
  intro v1 w4 HS4 _
  go_wp2_with (first | refine wl_bs HS4 rfl 33 5 1 1 _ rfl (bl [90]) (.int .u8 0) Tryd.underlying33 (by kernel_rfl) (by decide) (by decide) (by kernel_rfl) rfl ?_)
  intro g5 w5 HS5
  go_wp2_with (refine wl_apb HS5 1 rfl rfl rfl (HS5.own 0 rfl).rd rfl rfl L.length L HLl.out.symm HL.out hl2 ?_)
  intro v6 w6 HS6 _
  obtain ⟨A6, c6, rfl, hc6⟩ := (HS6.own 1 rfl).sl
  have HS7 := HS6.toRd 1 rfl
  obtain ⟨A7, c7, hc7, hm7, HR7, hb7, hs7⟩ := rd_to (HS6.own 1 rfl).rd Tryd.underlying33 info_u8' l.length hlL
  rw [← HL.out, List.take_left' rfl] at HR7 hb7
  have HS8 : Sep w.heap.size w w6 [.rd (.slice A7 l.length c7) l.length 1 (bl l), .rd (.slice A6 L.length c6) L.length 1 (bl L), .row g1 (bv d) 23, .rd (.slice A l.length c) l.length 1 (bl l)] := (HS7.part 1 rfl HR7 (by rw [HL.out] at hb7; exact hb7)).sub (by repeat (first | exact List.nil_sublist _ | exact List.Sublist.refl _ | apply List.Sublist.cons_cons | apply List.Sublist.cons))
  have HS7X := Lib.hid hs7
  clear HS0 HS1 HS3 HS4 HS5 hs7 HS6 HS7 HR7 hb7
  go_wp2
  refine Cop.region_ord (fun w' => Sep w.heap.size w w' [.row g1 (bv d) 23]) 11 (.take 0 (.take 1 (.take 2 (.take 3 (.take 4 (.run2 5 (.take 6 (.take 7 (.take 8 (.run 9 (.run 10 (.take 11 Cop.Ord.fin)))))) 9 (.run 5 (.take 6 (.take 7 (.take 8 (.run 10 (.take 11 Cop.Ord.fin)))))))))))) (by kernel_rfl) (by kernel_rfl) (fun _ _ d _ _ h => by cases d <;> exact h) ?_
  intro wa hda
  have HSa := HS8.keep hda
  have HTa : Sep w.heap.size w wa [.row g1 (bv d) 23] := HSa.sub (by repeat (first | exact List.nil_sublist _ | exact List.Sublist.refl _ | apply List.Sublist.cons_cons | apply List.Sublist.cons))
  clear HS8
  (repeat (first | (refine Cop.og_skip rfl rfl HTa _ (by (simp only [Act.put, List.setIfInBounds_toArray, List.set_cons_succ, List.set_cons_zero]; rfl)) ?_) | (refine Cop.og_ld rfl rfl HTa 23 _ rfl (.pointer (some ⟨g1, 0, none⟩)) rfl _ (fun w9 h9 => load_row (h9.row 0 rfl) 23 Tryd.underlying23 rfl (dgS hd)) _ (by (simp only [Act.put, List.setIfInBounds_toArray, List.set_cons_succ, List.set_cons_zero]; rfl)) ?_) | (refine Cop.og_take rfl rfl HTa ?_; apply Exists.intro; refine ⟨fun w9 h9 => ?_, _, by (simp only [Act.put, List.setIfInBounds_toArray, List.set_cons_succ, List.set_cons_zero]; rfl), ?_⟩; (have e := HS7X.out; go_simp; with_reducible rfl))))
  refine og_run2 ?_ ?_
  · refine Cop.og_run rfl rfl ?_
    refine ow_call 15 _ _ (fun w' => Below wa.heap.size wa w') (by go_simp) (CA.out wa _ HSa.hb (HSa.rd 0 rfl)) ?_
    intro wb bb
    have HSb := HSa.keep bb
    have HTb := HTa.keep bb
    refine ⟨fun _ => HTb, ?_⟩
    (repeat (first | (refine Cop.og_skip rfl rfl HTb _ (by (simp only [Act.put, List.setIfInBounds_toArray, List.set_cons_succ, List.set_cons_zero]; rfl)) ?_) | (refine Cop.og_take rfl rfl HTb ?_; apply Exists.intro; refine ⟨fun w9 h9 => ?_, _, by (simp only [Act.put, List.setIfInBounds_toArray, List.set_cons_succ, List.set_cons_zero]; rfl), ?_⟩; (go_simp; with_reducible rfl))))
    refine Cop.og_run rfl rfl ?_
    refine ow_al HSb 23 rfl (bv (List.replicate 32 0)) (by kernel_rfl) ?_
    intro g8 wc HSc
    have HTc : Sep w.heap.size w wc [.row g1 (bv d) 23] := HSc.sub (by repeat (first | exact List.nil_sublist _ | exact List.Sublist.refl _ | apply List.Sublist.cons_cons | apply List.Sublist.cons))
    refine ⟨fun _ => HTc, ?_⟩
    (repeat (first | (refine Cop.og_skip rfl rfl HTc _ (by (simp only [Act.put, List.setIfInBounds_toArray, List.set_cons_succ, List.set_cons_zero]; rfl)) ?_) | (refine Cop.og_take rfl rfl HTc ?_; apply Exists.intro; refine ⟨fun w9 h9 => ?_, _, by (simp only [Act.put, List.setIfInBounds_toArray, List.set_cons_succ, List.set_cons_zero]; rfl), ?_⟩; (go_simp; with_reducible rfl))))
    refine Cop.og_run rfl rfl ?_
    refine ow_st HSc 0 rfl 23 _ _ rfl rfl rfl (dgS HXL.out) (dgE rfl HXL.out) (bv_one _) ?_
    intro wf HSf0
    have HT : Sep w.heap.size w wf [.row g1 (bv d) 23] := HSf0.sub (by repeat (first | exact List.nil_sublist _ | exact List.Sublist.refl _ | apply List.Sublist.cons_cons | apply List.Sublist.cons))
    clear HSb HSc
    refine ⟨fun _ => HT, ?_⟩
    (repeat (first | (refine Cop.og_skip rfl rfl HT _ (by (simp only [Act.put, List.setIfInBounds_toArray, List.set_cons_succ, List.set_cons_zero]; rfl)) ?_) | (refine Cop.og_take rfl rfl HT ?_; apply Exists.intro; refine ⟨fun w9 h9 => ?_, _, by (simp only [Act.put, List.setIfInBounds_toArray, List.set_cons_succ, List.set_cons_zero]; rfl), ?_⟩; (go_simp; with_reducible rfl))))
    refine og_fin ?_
    clear HSa HTa HT
    have HSf := HSf0
    go_wp2_with (first | refine wl_ld HSf 3 rfl rfl 23 _ rfl rfl Tryd.underlying23 rfl (dgS hd) ?_)
    (with_reducible refine Calls.mono (CB.out wf _ (HSf.rd 4 rfl)) ?_)
    rintro e wg ⟨rfl, bg⟩
    have HSg := HSf.keep bg
    clear HSf
    go_wp2_with (first | refine wl_al HSg rfl 23 rfl (bv (List.replicate 32 0)) (by kernel_rfl) ?_)
    intro g7 wh HSh
    go_wp2_with (first | refine wl_st HSh 0 rfl rfl 23 _ _ rfl rfl rfl (dgS HXL.out) (dgE rfl HXL.out) (bv_one _) ?_)
    intro wi HSi
    have q1 := HEQ.out wi
    have s1 := Rd.string (P := Tryd.prog) (HSi.rd 3 rfl) Tryd.underlying33 Tryd.underlying5 Tryd.underlying9
    have s2 := Rd.string (P := Tryd.prog) (HSi.rd 5 rfl) Tryd.underlying33 Tryd.underlying5 Tryd.underlying9
    unfold sv at s1 s2
    have hbe := bytes_eq L l 90 HL.out
    have hct : ¬ (9223372036854775807 < l.length + 1) := by omega
    clear HSg HSh
    go_wp2_with (first | refine wl_ld HSi 0 rfl rfl 23 _ rfl rfl Tryd.underlying23 rfl (dgS HXL.out) ?_ | refine wl_ld HSi 1 rfl rfl 23 _ rfl rfl Tryd.underlying23 rfl (dgS HXL.out) ?_)
    refine (names_19g wi).mono ?_
    rintro e wj ⟨rfl, rfl⟩
    go_wp2
    go_ret
    exact ⟨rfl, HSi.hb⟩
  · refine Cop.og_run rfl rfl ?_
    refine ow_al HSa 23 rfl (bv (List.replicate 32 0)) (by kernel_rfl) ?_
    intro g8 wb HSb
    have HTb : Sep w.heap.size w wb [.row g1 (bv d) 23] := HSb.sub (by repeat (first | exact List.nil_sublist _ | exact List.Sublist.refl _ | apply List.Sublist.cons_cons | apply List.Sublist.cons))
    refine ⟨fun _ => HTb, ?_⟩
    (repeat (first | (refine Cop.og_skip rfl rfl HTb _ (by (simp only [Act.put, List.setIfInBounds_toArray, List.set_cons_succ, List.set_cons_zero]; rfl)) ?_) | (refine Cop.og_take rfl rfl HTb ?_; apply Exists.intro; refine ⟨fun w9 h9 => ?_, _, by (simp only [Act.put, List.setIfInBounds_toArray, List.set_cons_succ, List.set_cons_zero]; rfl), ?_⟩; (go_simp; with_reducible rfl))))
    refine Cop.og_run rfl rfl ?_
    refine ow_call 15 _ _ (fun w' => Below wb.heap.size wb w') (by go_simp) (CA.out wb _ HSb.hb (HSb.rd 1 rfl)) ?_
    intro wc bc
    have HSc := HSb.keep bc
    have HTc := HTb.keep bc
    refine ⟨fun _ => HTc, ?_⟩
    (repeat (first | (refine Cop.og_skip rfl rfl HTc _ (by (simp only [Act.put, List.setIfInBounds_toArray, List.set_cons_succ, List.set_cons_zero]; rfl)) ?_) | (refine Cop.og_take rfl rfl HTc ?_; apply Exists.intro; refine ⟨fun w9 h9 => ?_, _, by (simp only [Act.put, List.setIfInBounds_toArray, List.set_cons_succ, List.set_cons_zero]; rfl), ?_⟩; (go_simp; with_reducible rfl))))
    refine Cop.og_run rfl rfl ?_
    refine ow_st HSc 0 rfl 23 _ _ rfl rfl rfl (dgS HXL.out) (dgE rfl HXL.out) (bv_one _) ?_
    intro wf HSf0
    have HT : Sep w.heap.size w wf [.row g1 (bv d) 23] := HSf0.sub (by repeat (first | exact List.nil_sublist _ | exact List.Sublist.refl _ | apply List.Sublist.cons_cons | apply List.Sublist.cons))
    clear HSb HSc
    refine ⟨fun _ => HT, ?_⟩
    (repeat (first | (refine Cop.og_skip rfl rfl HT _ (by (simp only [Act.put, List.setIfInBounds_toArray, List.set_cons_succ, List.set_cons_zero]; rfl)) ?_) | (refine Cop.og_take rfl rfl HT ?_; apply Exists.intro; refine ⟨fun w9 h9 => ?_, _, by (simp only [Act.put, List.setIfInBounds_toArray, List.set_cons_succ, List.set_cons_zero]; rfl), ?_⟩; (go_simp; with_reducible rfl))))
    refine og_fin ?_
    clear HSa HTa HT
    have HSf := HSf0
    go_wp2_with (first | refine wl_ld HSf 3 rfl rfl 23 _ rfl rfl Tryd.underlying23 rfl (dgS hd) ?_)
    (with_reducible refine Calls.mono (CB.out wf _ (HSf.rd 4 rfl)) ?_)
    rintro e wg ⟨rfl, bg⟩
    have HSg := HSf.keep bg
    clear HSf
    go_wp2_with (first | refine wl_al HSg rfl 23 rfl (bv (List.replicate 32 0)) (by kernel_rfl) ?_)
    intro g7 wh HSh
    go_wp2_with (first | refine wl_st HSh 0 rfl rfl 23 _ _ rfl rfl rfl (dgS HXL.out) (dgE rfl HXL.out) (bv_one _) ?_)
    intro wi HSi
    have q1 := HEQ.out wi
    have s1 := Rd.string (P := Tryd.prog) (HSi.rd 3 rfl) Tryd.underlying33 Tryd.underlying5 Tryd.underlying9
    have s2 := Rd.string (P := Tryd.prog) (HSi.rd 5 rfl) Tryd.underlying33 Tryd.underlying5 Tryd.underlying9
    unfold sv at s1 s2
    have hbe := bytes_eq L l 90 HL.out
    have hct : ¬ (9223372036854775807 < l.length + 1) := by omega
    clear HSg HSh
    go_wp2_with (first | refine wl_ld HSi 0 rfl rfl 23 _ rfl rfl Tryd.underlying23 rfl (dgS HXL.out) ?_ | refine wl_ld HSi 1 rfl rfl 23 _ rfl rfl Tryd.underlying23 rfl (dgS HXL.out) ?_)
    refine (names_19g wi).mono ?_
    rintro e wj ⟨rfl, rfl⟩
    go_wp2
    go_ret
    exact ⟨rfl, HSi.hb⟩
set_option maxRecDepth 100000 in
theorem onetimeRecovers_holds : Rows.OnetimeRecoversCardSaid := onetimeRecovers.card_of_walk fun H enc W base v0 v1 d0 d1 p0 p1 h0 k0 h1 k1 hsz hL => by
  obtain ⟨d, hd, rfl⟩ := open_bytes Tryd.underlying23 Tryd.underlying5 (by kernel_rfl) (by kernel_rfl) h0 k0
  obtain ⟨l, hR, hl⟩ := open_bslice Tryd.underlying33 Tryd.underlying5 (by kernel_rfl) (by kernel_rfl) h1 k1 hsz 1 rfl rfl
  exact onetimeRecovers_walk d l v1 W (table_of hL) hd hR hl
#print axioms onetimeRecovers_holds
end Go.Proofs.YtkgdjddcnlkppaaDoor
