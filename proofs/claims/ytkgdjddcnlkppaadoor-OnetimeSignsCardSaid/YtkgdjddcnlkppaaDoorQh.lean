/- Proved here: any seed has the document's public key, and its signature of any digest. The table of constants is tied to the program's text. No condition. -/
import Derived.Test.YtkgdjddcnlkppaaDoorQe
import Derived.Test.YtkgdjddcnlkppaaDoorFOnetimeSigns
namespace Go.Proofs.YtkgdjddcnlkppaaDoor
open Go.RowKit Cop
set_option linter.unusedVariables false
set_option linter.unusedSimpArgs false
set_option maxRecDepth 100000 in
set_option maxHeartbeats 4000000 in
theorem onetimeSigns_walk (s d : List UInt8) (w : World) (hT : Tab w) (hs : s.length = 32) (hd : d.length = 32) :
    Gives 9 #[.agg (bv s), .agg (bv d)] w (.bool true) := by
  have hPl := publicD_length s
  have CS := Lib.hid (fun w' (hb : Below w.heap.size w w') => sign_a s d w' (hT.below hb) hs hd)
  have CT := Lib.hid (fun w' => sign_b s d w' hs hd)
  have CP := Lib.hid (fun w' (hb : Below w.heap.size w w') => public_a s w' (hT.below hb) hs)
  have CQ := Lib.hid (fun w' => public_b s w' hs)
  have hgl := signD_length s d
  obtain ⟨G, hG⟩ : ∃ y, signD s d = y := ⟨_, rfl⟩
  obtain ⟨P, hP⟩ : ∃ y, publicD s = y := ⟨_, rfl⟩
  rw [hG] at CS CT hgl
  rw [hP] at CP CQ hPl
  rw [hgl] at CS CT
  have HPL := Lib.hid hPl
  have HGL := Lib.hid hgl
  have HEQ := Lib.hid (fun w' : World => run_equal_bv (P := Tryd.prog) w' (d := 9998) Tryd.underlying23 Tryd.underlying5 (by kernel_rfl) P P hPl hPl)
  have HS0 := Sep.start w
  clear hG hP hgl hPl
  go_enter Tryd.func9, Tryd.ntmps9
  go_wp2_with (first | refine wl_bx HS0 rfl 23 _ rfl (bv s) rfl ?_)
  intro g1 w1 HS1
  go_wp2_with (first | refine wl_bx HS1 rfl 23 _ rfl (bv d) rfl ?_)
  intro g2 w2 HS2
  clear HS0 HS1
  go_wp2
  refine Cop.region_ord (fun w' => Sep w.heap.size w w' [.row g2 (bv d) 23, .row g1 (bv s) 23]) 7 (.take 0 (.take 1 (.take 3 (.take 4 (.run 2 (.run 5 (.take 6 (.take 7 Cop.Ord.fin)))))))) (by kernel_rfl) (by kernel_rfl) (fun _ _ d _ _ h => by cases d <;> exact h) ?_
  intro wa hda
  have HSa := HS2.keep hda
  have HTa : Sep w.heap.size w wa [.row g2 (bv d) 23, .row g1 (bv s) 23] := HSa
  clear HS2
  (repeat (first | (refine Cop.og_skip rfl rfl HTa _ (by (simp only [Act.put, List.setIfInBounds_toArray, List.set_cons_succ, List.set_cons_zero]; rfl)) ?_) | (refine Cop.og_ld rfl rfl HTa 23 _ rfl (.pointer (some ⟨g2, 0, none⟩)) rfl _ (fun w9 h9 => load_row (h9.row 0 rfl) 23 Tryd.underlying23 rfl (dgS hd)) _ (by (simp only [Act.put, List.setIfInBounds_toArray, List.set_cons_succ, List.set_cons_zero]; rfl)) ?_) | (refine Cop.og_ld rfl rfl HTa 23 _ rfl (.pointer (some ⟨g1, 0, none⟩)) rfl _ (fun w9 h9 => load_row (h9.row 1 rfl) 23 Tryd.underlying23 rfl (dgS hs)) _ (by (simp only [Act.put, List.setIfInBounds_toArray, List.set_cons_succ, List.set_cons_zero]; rfl)) ?_) | (refine Cop.og_take rfl rfl HTa ?_; apply Exists.intro; refine ⟨fun w9 h9 => ?_, _, by (simp only [Act.put, List.setIfInBounds_toArray, List.set_cons_succ, List.set_cons_zero]; rfl), ?_⟩; (go_simp; with_reducible rfl))))
  refine Cop.og_run rfl rfl ?_
  refine ow_call_ex 23 _ (fun x w' => Below wa.heap.size wa w' ∧ Ow w' wa.heap.size 5 1 x 4288 (bl G)) (by go_simp) (CS.out wa HSa.hb) ?_
  rintro va wb ⟨bb, ob⟩
  have HSb := HSa.made bb ob
  obtain ⟨A3, c3, rfl, _⟩ := (HSb.own 0 rfl).sl
  have HTb := HTa.keep bb
  refine ⟨fun _ => HTb, ?_⟩
  (repeat (first | (refine Cop.og_skip rfl rfl HTb _ (by (simp only [Act.put, List.setIfInBounds_toArray, List.set_cons_succ, List.set_cons_zero]; rfl)) ?_) | (refine Cop.og_ld rfl rfl HTb 23 _ rfl (.pointer (some ⟨g2, 0, none⟩)) rfl _ (fun w9 h9 => load_row (h9.row 0 rfl) 23 Tryd.underlying23 rfl (dgS hd)) _ (by (simp only [Act.put, List.setIfInBounds_toArray, List.set_cons_succ, List.set_cons_zero]; rfl)) ?_) | (refine Cop.og_ld rfl rfl HTb 23 _ rfl (.pointer (some ⟨g1, 0, none⟩)) rfl _ (fun w9 h9 => load_row (h9.row 1 rfl) 23 Tryd.underlying23 rfl (dgS hs)) _ (by (simp only [Act.put, List.setIfInBounds_toArray, List.set_cons_succ, List.set_cons_zero]; rfl)) ?_) | (refine Cop.og_take rfl rfl HTb ?_; apply Exists.intro; refine ⟨fun w9 h9 => ?_, _, by (simp only [Act.put, List.setIfInBounds_toArray, List.set_cons_succ, List.set_cons_zero]; rfl), ?_⟩; (go_simp; with_reducible rfl))))
  refine Cop.og_run rfl rfl ?_
  refine ow_call_ex 23 _ (fun x w' => Below wb.heap.size wb w' ∧ Ow w' wb.heap.size 5 1 x 4288 (bl G)) (by go_simp) (CS.out wb HSb.hb) ?_
  rintro vb wc ⟨bc, oc⟩
  have HSc := HSb.made bc oc
  obtain ⟨A4, c4, rfl, _⟩ := (HSc.own 0 rfl).sl
  have HTc := HTb.keep bc
  refine ⟨fun _ => HTc, ?_⟩
  (repeat (first | (refine Cop.og_skip rfl rfl HTc _ (by (simp only [Act.put, List.setIfInBounds_toArray, List.set_cons_succ, List.set_cons_zero]; rfl)) ?_) | (refine Cop.og_take rfl rfl HTc ?_; apply Exists.intro; refine ⟨fun w9 h9 => ?_, _, by (simp only [Act.put, List.setIfInBounds_toArray, List.set_cons_succ, List.set_cons_zero]; rfl), ?_⟩; (go_simp; with_reducible rfl))))
  refine og_fin ?_
  clear HSa HSb HTa HTb HTc
  go_wp2_with (first | refine wl_ld HSc 2 rfl rfl 23 _ rfl rfl Tryd.underlying23 rfl (dgS hd) ?_ | refine wl_ld HSc 3 rfl rfl 23 _ rfl rfl Tryd.underlying23 rfl (dgS hs) ?_)
  (with_reducible refine Calls.mono (CT.out wc) ?_)
  rintro e wd ⟨vd, rfl, bd, od⟩
  have HSd := HSc.made bd od
  obtain ⟨A5, c5, rfl, _⟩ := (HSd.own 0 rfl).sl
  clear HSc
  go_wp2
  refine Cop.region_ord (fun w' => Sep w.heap.size w w' [.own (.slice A5 4288 c5) 5 1 4288 (bl G), .own (.slice A4 4288 c4) 5 1 4288 (bl G), .own (.slice A3 4288 c3) 5 1 4288 (bl G), .row g2 (bv d) 23, .row g1 (bv s) 23]) 11 (.take 0 (.take 1 (.take 2 (.take 3 (.take 4 (.take 5 (.take 6 (.take 8 (.run 7 (.run 9 (.take 10 (.take 11 Cop.Ord.fin)))))))))))) (by kernel_rfl) (by kernel_rfl) (fun _ _ d _ _ h => by cases d <;> exact h) ?_
  intro we hde
  have HSe := HSd.keep hde
  have HTe : Sep w.heap.size w we [.own (.slice A5 4288 c5) 5 1 4288 (bl G), .own (.slice A4 4288 c4) 5 1 4288 (bl G), .own (.slice A3 4288 c3) 5 1 4288 (bl G), .row g2 (bv d) 23, .row g1 (bv s) 23] := HSe
  clear HSd
  (repeat (first | (refine Cop.og_skip rfl rfl HTe _ (by (simp only [Act.put, List.setIfInBounds_toArray, List.set_cons_succ, List.set_cons_zero]; rfl)) ?_) | (refine Cop.og_ld rfl rfl HTe 23 _ rfl (.pointer (some ⟨g2, 0, none⟩)) rfl _ (fun w9 h9 => load_row (h9.row 3 rfl) 23 Tryd.underlying23 rfl (dgS hd)) _ (by (simp only [Act.put, List.setIfInBounds_toArray, List.set_cons_succ, List.set_cons_zero]; rfl)) ?_) | (refine Cop.og_ld rfl rfl HTe 23 _ rfl (.pointer (some ⟨g1, 0, none⟩)) rfl _ (fun w9 h9 => load_row (h9.row 4 rfl) 23 Tryd.underlying23 rfl (dgS hs)) _ (by (simp only [Act.put, List.setIfInBounds_toArray, List.set_cons_succ, List.set_cons_zero]; rfl)) ?_) | (refine Cop.og_take rfl rfl HTe ?_; apply Exists.intro; refine ⟨fun w9 h9 => ?_, _, by (simp only [Act.put, List.setIfInBounds_toArray, List.set_cons_succ, List.set_cons_zero]; rfl), ?_⟩; (have s1 := Rd.string (P := Tryd.prog) (h9.own 0 rfl).rd Tryd.underlying33 Tryd.underlying5 Tryd.underlying9; have s2 := Rd.string (P := Tryd.prog) (h9.own 2 rfl).rd Tryd.underlying33 Tryd.underlying5 Tryd.underlying9; unfold sv at s1 s2; go_simp; with_reducible rfl))))
  refine Cop.og_run rfl rfl ?_
  refine ow_call 25 _ _ (fun w' => Below we.heap.size we w') (by go_simp) (CP.out we HSe.hb) ?_
  intro wf bf
  have HSf := HSe.keep bf
  have HTf := HTe.keep bf
  refine ⟨fun _ => HTf, ?_⟩
  (repeat (first | (refine Cop.og_skip rfl rfl HTf _ (by (simp only [Act.put, List.setIfInBounds_toArray, List.set_cons_succ, List.set_cons_zero]; rfl)) ?_) | (refine Cop.og_ld rfl rfl HTf 23 _ rfl (.pointer (some ⟨g2, 0, none⟩)) rfl _ (fun w9 h9 => load_row (h9.row 3 rfl) 23 Tryd.underlying23 rfl (dgS hd)) _ (by (simp only [Act.put, List.setIfInBounds_toArray, List.set_cons_succ, List.set_cons_zero]; rfl)) ?_) | (refine Cop.og_ld rfl rfl HTf 23 _ rfl (.pointer (some ⟨g1, 0, none⟩)) rfl _ (fun w9 h9 => load_row (h9.row 4 rfl) 23 Tryd.underlying23 rfl (dgS hs)) _ (by (simp only [Act.put, List.setIfInBounds_toArray, List.set_cons_succ, List.set_cons_zero]; rfl)) ?_) | (refine Cop.og_take rfl rfl HTf ?_; apply Exists.intro; refine ⟨fun w9 h9 => ?_, _, by (simp only [Act.put, List.setIfInBounds_toArray, List.set_cons_succ, List.set_cons_zero]; rfl), ?_⟩; (go_simp; with_reducible rfl))))
  refine Cop.og_run rfl rfl ?_
  refine ow_call 26 _ _ (fun w' => Below wf.heap.size wf w') (by go_simp) (CQ.out wf) ?_
  intro wg bg
  have HSg := HSf.keep bg
  have HTg := HTf.keep bg
  refine ⟨fun _ => HTg, ?_⟩
  (repeat (first | (refine Cop.og_skip rfl rfl HTg _ (by (simp only [Act.put, List.setIfInBounds_toArray, List.set_cons_succ, List.set_cons_zero]; rfl)) ?_) | (refine Cop.og_take rfl rfl HTg ?_; apply Exists.intro; refine ⟨fun w9 h9 => ?_, _, by (simp only [Act.put, List.setIfInBounds_toArray, List.set_cons_succ, List.set_cons_zero]; rfl), ?_⟩; (have q1 := HEQ.out w9; go_simp; with_reducible rfl))))
  refine og_fin ?_
  obtain ⟨g8, rfl⟩ := Ow.addr (HSg.own 2 rfl) (by decide)
  clear HSe HSf HTe HTf HTg
  go_wp2
  go_loopw [8] (fun s8 wr => ∃ (k : Nat) (l' : List UInt8), k ≤ 4288 ∧ s8 = .int .i64 k ∧ Sep w.heap.size w wr [.own (.slice (some ⟨g8, 0, none⟩) 4288 c3) 5 1 4288 (bl l'), .own (.slice A5 4288 c5) 5 1 4288 (bl G), .own (.slice A4 4288 c4) 5 1 4288 (bl G)]) (fun s8 _ => 4288 - (intOf s8).toNat)
  case atStart => exact ⟨0, G, by omega, rfl, (HSg.front 2).sub (by repeat (first | exact List.nil_sublist _ | exact List.Sublist.refl _ | apply List.Sublist.cons_cons | apply List.Sublist.cons))⟩
  case round =>
    clear HSg
    obtain ⟨k, l', hk, rfl, HSi⟩ := hrel
    by_cases hlt : k < 4288
    · have hlt' : (k : Int) < 4288 := by omega
      obtain ⟨b, o, he, hcell⟩ := rd_at (HSi.own 0 rfl).rd k hlt
      simp only [Option.some.injEq, Addr.mk.injEq, and_true] at he
      obtain ⟨rfl, rfl⟩ := he
      rw [Nat.zero_add] at hcell
      obtain ⟨q, hq⟩ : ∃ x, l'.getD k 0 = x := ⟨_, rfl⟩
      rw [hq] at hcell
      have HQ := Lib.hid (show ((((UInt8.ofNat (q.toNat + 1)).toNat : Nat) : Int) = ((q.toNat : Int) + 1) % 256) by rw [byte_of]; simp)
      clear hq
      go_wp2_with (refine wl_sto HSi 0 rfl rfl _ _ 5 rfl (by kernel_rfl) k hlt rfl rfl rfl rfl ?_)
      intro w3 HS3
      rw [← HQ.out, ← bl_set] at HS3
      go_wp2
      go_roundw
      case rel => exact ⟨k + 1, l'.set k (UInt8.ofNat (q.toNat + 1)), by omega, by go_num, HS3⟩
      case measure => simp [intOf]; omega
    · have hlt' : ¬ (k : Int) < 4288 := by omega
      have s1 := Rd.string (P := Tryd.prog) (HSi.own 1 rfl).rd Tryd.underlying33 Tryd.underlying5 Tryd.underlying9
      have s2 := Rd.string (P := Tryd.prog) (HSi.own 2 rfl).rd Tryd.underlying33 Tryd.underlying5 Tryd.underlying9
      unfold sv at s1 s2
      go_wp2
      go_ret
      exact ⟨rfl, HSi.hb⟩
set_option maxRecDepth 100000 in
theorem onetimeSigns_holds : Rows.OnetimeSignsCardSaid := onetimeSigns.card_of_walk fun H enc W base v0 v1 d0 d1 p0 p1 h0 k0 h1 k1 hsz hL => by
  obtain ⟨s, hs, rfl⟩ := open_bytes Tryd.underlying23 Tryd.underlying5 (by kernel_rfl) (by kernel_rfl) h0 k0
  obtain ⟨d, hd, rfl⟩ := open_bytes Tryd.underlying23 Tryd.underlying5 (by kernel_rfl) (by kernel_rfl) h1 k1
  exact onetimeSigns_walk s d W (table_of hL) hs hd
#print axioms onetimeSigns_holds
end Go.Proofs.YtkgdjddcnlkppaaDoor
