/- Proved here: a signature has its bytes, and leads to the public key of its seed. The table of constants is tied to the program's text. No condition. -/
import Derived.Test.YtkgdjddcnlkppaaDoorQe
import Derived.Test.YtkgdjddcnlkppaaDoorFOnetimeBack
namespace Go.Proofs.YtkgdjddcnlkppaaDoor
open Go.RowKit Cop
set_option linter.unusedVariables false
set_option linter.unusedSimpArgs false
set_option maxRecDepth 100000 in
set_option maxHeartbeats 4000000 in
theorem onetimeBack_walk (s d : List UInt8) (w : World) (hT : Tab w) (hs : s.length = 32) (hd : d.length = 32) :
    Gives 10 #[.agg (bv s), .agg (bv d)] w (.bool true) := by
  have hPl := publicD_length s
  have CS := Lib.hid (fun w' (hb : Below w.heap.size w w') => sign_a s d w' (hT.below hb) hs hd)
  have CP := Lib.hid (fun w' (hb : Below w.heap.size w w') => public_a s w' (hT.below hb) hs)
  have hrs := recover_sign s d
  have hgl := signD_length s d
  obtain ⟨G, hG⟩ : ∃ y, signD s d = y := ⟨_, rfl⟩
  obtain ⟨P, hP⟩ : ∃ y, publicD s = y := ⟨_, rfl⟩
  rw [hG] at CS hrs hgl
  rw [hP] at CP hrs hPl
  rw [hgl] at CS
  have CR := Lib.hid (fun w' v (hb : Below w.heap.size w w') hR => recover_a d G v w' (hT.below hb) hd hgl hR)
  rw [hrs] at CR
  have HPL := Lib.hid hPl
  have HEQ := Lib.hid (fun w' : World => run_equal_bv (P := Tryd.prog) w' (d := 9998) Tryd.underlying23 Tryd.underlying5 (by kernel_rfl) P P hPl hPl)
  have HS0 := Sep.start w
  clear hG hP hrs hgl hPl
  go_enter Tryd.func10, Tryd.ntmps10
  go_wp2_with (first | refine wl_bx HS0 rfl 23 _ rfl (bv s) rfl ?_)
  intro g1 w1 HS1
  go_wp2_with (first | refine wl_bx HS1 rfl 23 _ rfl (bv d) rfl ?_)
  intro g2 w2 HS2
  clear HS0 HS1
  go_wp2_with (first | refine wl_ld HS2 1 rfl rfl 23 _ rfl rfl Tryd.underlying23 rfl (dgS hs) ?_ | refine wl_ld HS2 0 rfl rfl 23 _ rfl rfl Tryd.underlying23 rfl (dgS hd) ?_)
  (with_reducible refine Calls.mono (CS.out w2 HS2.hb) ?_)
  rintro e w3 ⟨v3, rfl, b3, o3⟩
  have HS3 := HS2.made b3 o3
  obtain ⟨A3, c3, rfl, _⟩ := (HS3.own 0 rfl).sl
  clear HS2
  go_wp2_with (first | refine wl_ld HS3 1 rfl rfl 23 _ rfl rfl Tryd.underlying23 rfl (dgS hd) ?_)
  (with_reducible refine Calls.mono (CR.out w3 _ HS3.hb (HS3.own 0 rfl).rd) ?_)
  rintro e w4 ⟨rfl, b4⟩
  have HS4 := HS3.keep b4
  clear HS3
  go_wp2_with (first | refine wl_al HS4 rfl 23 rfl (bv (List.replicate 32 0)) (by kernel_rfl) ?_)
  intro g5 w5 HS5
  go_wp2_with (first | refine wl_st HS5 0 rfl rfl 23 _ _ rfl rfl rfl (dgS HPL.out) (dgE rfl HPL.out) (bv_one _) ?_)
  intro w6 HS6
  go_wp2
  refine Cop.region_ord (fun w' => Sep w.heap.size w w' [.row g5 (bv P) 23, .row g1 (bv s) 23]) 13 (.take 0 (.take 1 (.take 2 (.take 3 (.take 4 (.take 5 (.take 6 (.take 7 (.take 8 (.take 9 (.run 10 (.take 11 (.take 12 (.take 13 Cop.Ord.fin)))))))))))))) (by kernel_rfl) (by kernel_rfl) (fun _ _ d _ _ h => by cases d <;> exact h) ?_
  intro wa hda
  have HSa := HS6.keep hda
  have HTa : Sep w.heap.size w wa [.row g5 (bv P) 23, .row g1 (bv s) 23] := HSa.sub (by repeat (first | exact List.nil_sublist _ | exact List.Sublist.refl _ | apply List.Sublist.cons_cons | apply List.Sublist.cons))
  clear HS4 HS5 HS6
  (repeat (first | (refine Cop.og_skip rfl rfl HTa _ (by (simp only [Act.put, List.setIfInBounds_toArray, List.set_cons_succ, List.set_cons_zero]; rfl)) ?_) | (refine Cop.og_ld rfl rfl HTa 23 _ rfl (.pointer (some ⟨g5, 0, none⟩)) rfl _ (fun w9 h9 => load_row (h9.row 0 rfl) 23 Tryd.underlying23 rfl (dgS HPL.out)) _ (by (simp only [Act.put, List.setIfInBounds_toArray, List.set_cons_succ, List.set_cons_zero]; rfl)) ?_) | (refine Cop.og_ld rfl rfl HTa 23 _ rfl (.pointer (some ⟨g1, 0, none⟩)) rfl _ (fun w9 h9 => load_row (h9.row 1 rfl) 23 Tryd.underlying23 rfl (dgS hs)) _ (by (simp only [Act.put, List.setIfInBounds_toArray, List.set_cons_succ, List.set_cons_zero]; rfl)) ?_) | (refine Cop.og_take rfl rfl HTa ?_; apply Exists.intro; refine ⟨fun w9 h9 => ?_, _, by (simp only [Act.put, List.setIfInBounds_toArray, List.set_cons_succ, List.set_cons_zero]; rfl), ?_⟩; (go_simp; with_reducible rfl))))
  refine Cop.og_run rfl rfl ?_
  refine ow_call 25 _ _ (fun w' => Below wa.heap.size wa w') (by go_simp) (CP.out wa HSa.hb) ?_
  intro wb bb
  have HSb := HSa.keep bb
  have HTb := HTa.keep bb
  refine ⟨fun _ => HTb, ?_⟩
  (repeat (first | (refine Cop.og_skip rfl rfl HTb _ (by (simp only [Act.put, List.setIfInBounds_toArray, List.set_cons_succ, List.set_cons_zero]; rfl)) ?_) | (refine Cop.og_ld rfl rfl HTb 23 _ rfl (.pointer (some ⟨g5, 0, none⟩)) rfl _ (fun w9 h9 => load_row (h9.row 0 rfl) 23 Tryd.underlying23 rfl (dgS HPL.out)) _ (by (simp only [Act.put, List.setIfInBounds_toArray, List.set_cons_succ, List.set_cons_zero]; rfl)) ?_) | (refine Cop.og_ld rfl rfl HTb 23 _ rfl (.pointer (some ⟨g1, 0, none⟩)) rfl _ (fun w9 h9 => load_row (h9.row 1 rfl) 23 Tryd.underlying23 rfl (dgS hs)) _ (by (simp only [Act.put, List.setIfInBounds_toArray, List.set_cons_succ, List.set_cons_zero]; rfl)) ?_) | (refine Cop.og_take rfl rfl HTb ?_; apply Exists.intro; refine ⟨fun w9 h9 => ?_, _, by (simp only [Act.put, List.setIfInBounds_toArray, List.set_cons_succ, List.set_cons_zero]; rfl), ?_⟩; (have q1 := HEQ.out w9; go_simp; with_reducible rfl))))
  refine og_fin ?_
  go_wp2
  go_ret
  exact ⟨rfl, HSb.hb⟩
set_option maxRecDepth 100000 in
theorem onetimeBack_holds : Rows.OnetimeBackCardSaid := onetimeBack.card_of_walk fun H enc W base v0 v1 d0 d1 p0 p1 h0 k0 h1 k1 hsz hL => by
  obtain ⟨s, hs, rfl⟩ := open_bytes Tryd.underlying23 Tryd.underlying5 (by kernel_rfl) (by kernel_rfl) h0 k0
  obtain ⟨d, hd, rfl⟩ := open_bytes Tryd.underlying23 Tryd.underlying5 (by kernel_rfl) (by kernel_rfl) h1 k1
  exact onetimeBack_walk s d W (table_of hL) hs hd
#print axioms onetimeBack_holds
end Go.Proofs.YtkgdjddcnlkppaaDoor
