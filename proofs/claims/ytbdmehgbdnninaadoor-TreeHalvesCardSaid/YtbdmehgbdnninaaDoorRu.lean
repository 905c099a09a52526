/- Proved here: a tree's root is the node of its two halves' roots, split at the greatest power of two. The table of constants is tied to the program's text. No condition. -/
import Derived.Test.YtbdmehgbdnninaaDoorRs
import Derived.Test.YtbdmehgbdnninaaDoorOh
import Derived.Test.YtbdmehgbdnninaaDoorFTreeHalves
namespace Go.Proofs.YtbdmehgbdnninaaDoor
open Go.RowKit Cop
set_option linter.unusedVariables false
set_option linter.unusedSimpArgs false
set_option maxRecDepth 100000 in
set_option maxHeartbeats 4000000 in
theorem treeHalves_zero (v : Value) (w : World) (hT : Tab w) (hR : Rd w v 0 32 (dcs [])) : Gives 5 #[v] w (.bool true) := by
  have hel := sha_length []
  have RA := Lib.hid (fun w' v (hb : Below w.heap.size w w') hR => root_a [] v w' (hT.below hb) (by intro x hx; cases hx) (by decide) hR)
  have EA := Lib.hid (fun w' (hb : Below w.heap.size w w') => empty_a w' (hT.below hb))
  rw [root_nil] at RA
  obtain ⟨E, hE⟩ : ∃ y, sha [] = y := ⟨_, rfl⟩
  rw [hE] at RA EA hel
  have HEQ := Lib.hid (fun w' : World => run_equal_bv (P := Tryd.prog) w' (d := 9998) Tryd.underlying26 Tryd.underlying5 (by kernel_rfl) E E hel hel)
  have HS0 := (Sep.start w).arg0 hR
  obtain ⟨A, c, rfl, _, _⟩ := hR.shape
  have HA : True := trivial
  clear hE hel hR
  go_enter Tryd.func5, Tryd.ntmps5
  go_wp2
  refine Cop.region_ord (fun w' => True) 22 (.take 0 (.take 1 (.take 2 (.take 3 (.take 4 (.run 5 (.run 6 (.take 7 (.take 8 (.take 9 (.take 10 (.take 11 (.take 12 (.take 13 (.take 14 (.take 16 (.take 17 (.take 18 (.run 15 (.take 19 (.take 20 (.take 21 (.take 22 Cop.Ord.fin))))))))))))))))))))))) (by kernel_rfl) (by kernel_rfl) (fun _ _ d _ _ h => by cases d <;> exact h) ?_
  intro wa hda
  have HSa := HS0.keep hda
  (repeat (first | (refine Cop.og_skip rfl rfl HA _ (by (simp only [Act.put, List.setIfInBounds_toArray, List.set_cons_succ, List.set_cons_zero]; rfl)) ?_) | (refine Cop.og_take rfl rfl HA ?_; apply Exists.intro; refine ⟨fun w9 h9 => ?_, _, by (simp only [Act.put, List.setIfInBounds_toArray, List.set_cons_succ, List.set_cons_zero]; rfl), ?_⟩; (go_simp; with_reducible rfl))))
  refine Cop.og_run rfl rfl ?_
  refine ow_call 15 _ _ (fun w' => Below wa.heap.size wa w') (by go_simp) (RA.out wa _ HSa.hb (HSa.rd 0 rfl)) ?_
  intro wb bb
  have HSb := HSa.keep bb
  refine ⟨fun _ => HA, ?_⟩
  refine Cop.og_run rfl rfl ?_
  refine ow_call 25 _ _ (fun w' => Below wb.heap.size wb w') (by go_simp) (EA.out wb HSb.hb) ?_
  intro wc bc
  have HSc := HSb.keep bc
  refine ⟨fun _ => HA, ?_⟩
  (repeat (first | (refine Cop.og_skip rfl rfl HA _ (by (simp only [Act.put, List.setIfInBounds_toArray, List.set_cons_succ, List.set_cons_zero]; rfl)) ?_) | (refine Cop.og_take rfl rfl HA ?_; apply Exists.intro; refine ⟨fun w9 h9 => ?_, _, by (simp only [Act.put, List.setIfInBounds_toArray, List.set_cons_succ, List.set_cons_zero]; rfl), ?_⟩; (have q1 := HEQ.out w9; go_simp; with_reducible rfl))))
  refine Cop.og_rskip rfl rfl HA _ (by (simp only [Act.put, List.setIfInBounds_toArray, List.set_cons_succ, List.set_cons_zero]; rfl)) ?_
  (repeat (first | (refine Cop.og_skip rfl rfl HA _ (by (simp only [Act.put, List.setIfInBounds_toArray, List.set_cons_succ, List.set_cons_zero]; rfl)) ?_) | (refine Cop.og_take rfl rfl HA ?_; apply Exists.intro; refine ⟨fun w9 h9 => ?_, _, by (simp only [Act.put, List.setIfInBounds_toArray, List.set_cons_succ, List.set_cons_zero]; rfl), ?_⟩; (go_simp; with_reducible rfl))))
  refine og_fin ?_
  go_wp2
  go_ret
  exact ⟨rfl, HSc.hb⟩
set_option maxRecDepth 100000 in
set_option maxHeartbeats 4000000 in
theorem treeHalves_one (d : List UInt8) (v : Value) (w : World) (hT : Tab w) (hd : d.length = 32) (hR : Rd w v 1 32 (dcs [d])) : Gives 5 #[v] w (.bool true) := by
  have hal : AllD [d] := by intro x hx; simp at hx; subst hx; exact hd
  have RA := Lib.hid (fun w' v (hb : Below w.heap.size w w') hR => root_a [d] v w' (hT.below hb) hal (by simp) hR)
  rw [root_one] at RA
  have HEQ := Lib.hid (fun w' : World => run_equal_bv (P := Tryd.prog) w' (d := 9998) Tryd.underlying26 Tryd.underlying5 (by kernel_rfl) d d hd hd)
  have HS0 := (Sep.start w).arg0 hR
  obtain ⟨A, c, rfl, _, _⟩ := hR.shape
  obtain ⟨b, o, rfl⟩ := rd_some hR (by decide)
  have HLD := Lib.hid (fun (W : World) (h : Rd W (.slice (some ⟨b, o, none⟩) 1 c) 1 32 (dcs [d])) => load_dg h rfl hal 0 (by simp) d rfl)
  rw [show o + 0 * 32 = o from by omega] at HLD
  clear hR hal
  go_enter Tryd.func5, Tryd.ntmps5
  go_wp2
  refine Cop.region_ord (fun w' => Sep w.heap.size w w' [.rd (.slice (some ⟨b, o, none⟩) 1 c) 1 32 (dcs [d])]) 22 (.take 0 (.take 1 (.take 2 (.take 3 (.take 4 (.run 5 (.run 6 (.take 7 (.take 8 (.take 9 (.take 10 (.take 11 (.take 12 (.take 13 (.take 14 (.take 16 (.take 17 (.take 18 (.run 15 (.take 19 (.take 20 (.take 21 (.take 22 Cop.Ord.fin))))))))))))))))))))))) (by kernel_rfl) (by kernel_rfl) (fun _ _ d _ _ h => by cases d <;> exact h) ?_
  intro wa hda
  have HSa := HS0.keep hda
  (repeat (first | (refine Cop.og_skip rfl rfl HSa _ (by (simp only [Act.put, List.setIfInBounds_toArray, List.set_cons_succ, List.set_cons_zero]; rfl)) ?_) | (refine Cop.og_ld rfl rfl HSa 26 _ rfl (.pointer (some ⟨b, o, none⟩)) rfl (.agg (bv d)) (fun w9 h9 => HLD.out w9 (h9.rd 0 rfl)) _ (by (simp only [Act.put, List.setIfInBounds_toArray, List.set_cons_succ, List.set_cons_zero]; rfl)) ?_) | (refine Cop.og_take rfl rfl HSa ?_; apply Exists.intro; refine ⟨fun w9 h9 => ?_, _, by (simp only [Act.put, List.setIfInBounds_toArray, List.set_cons_succ, List.set_cons_zero]; rfl), ?_⟩; (go_simp; with_reducible rfl))))
  refine Cop.og_rskip rfl rfl HSa _ (by (simp only [Act.put, List.setIfInBounds_toArray, List.set_cons_succ, List.set_cons_zero]; rfl)) ?_
  refine Cop.og_rskip rfl rfl HSa _ (by (simp only [Act.put, List.setIfInBounds_toArray, List.set_cons_succ, List.set_cons_zero]; rfl)) ?_
  (repeat (first | (refine Cop.og_skip rfl rfl HSa _ (by (simp only [Act.put, List.setIfInBounds_toArray, List.set_cons_succ, List.set_cons_zero]; rfl)) ?_) | (refine Cop.og_ld rfl rfl HSa 26 _ rfl (.pointer (some ⟨b, o, none⟩)) rfl (.agg (bv d)) (fun w9 h9 => HLD.out w9 (h9.rd 0 rfl)) _ (by (simp only [Act.put, List.setIfInBounds_toArray, List.set_cons_succ, List.set_cons_zero]; rfl)) ?_) | (refine Cop.og_take rfl rfl HSa ?_; apply Exists.intro; refine ⟨fun w9 h9 => ?_, _, by (simp only [Act.put, List.setIfInBounds_toArray, List.set_cons_succ, List.set_cons_zero]; rfl), ?_⟩; (go_simp; with_reducible rfl))))
  refine Cop.og_run rfl rfl ?_
  refine ow_call 15 _ _ (fun w' => Below wa.heap.size wa w') (by go_simp) (RA.out wa _ HSa.hb (HSa.rd 0 rfl)) ?_
  intro wb bb
  have HSb := HSa.keep bb
  refine ⟨fun _ => HSb, ?_⟩
  (repeat (first | (refine Cop.og_skip rfl rfl HSb _ (by (simp only [Act.put, List.setIfInBounds_toArray, List.set_cons_succ, List.set_cons_zero]; rfl)) ?_) | (refine Cop.og_take rfl rfl HSb ?_; apply Exists.intro; refine ⟨fun w9 h9 => ?_, _, by (simp only [Act.put, List.setIfInBounds_toArray, List.set_cons_succ, List.set_cons_zero]; rfl), ?_⟩; (have q1 := HEQ.out w9; go_simp; with_reducible rfl))))
  refine og_fin ?_
  go_wp2
  go_ret
  exact ⟨rfl, HSb.hb⟩
set_option maxRecDepth 100000 in
set_option maxHeartbeats 4000000 in
theorem treeHalves_more (l : List (List UInt8)) (v : Value) (w : World) (hT : Tab w) (hl : AllD l) (hll : l.length ≤ 4398046511104) (h2 : 2 ≤ l.length) (hR : Rd w v l.length 32 (dcs l)) : Gives 5 #[v] w (.bool true) := by
  have hlt := hf_lt h2
  have hps := hf_pos l.length
  have hrt := root_split nodeD (sha []) (l := l) h2
  have CH := Lib.hid (fun w => split_hi (l.length : Int) w (by omega) (by omega))
  rw [Int.toNat_natCast] at CH
  have hyl := root_length l hl
  obtain ⟨k, hk⟩ : ∃ k, hf l.length = k := ⟨_, rfl⟩
  rw [hk] at CH hlt hps hrt
  obtain ⟨A1, c1, HR1, hc1, hm1, hs1⟩ := rd_dto hR hl k (by omega)
  obtain ⟨A2, c2, HR2, hc2, hm2, hs2⟩ := rd_dfrom hR hl k (by omega)
  have e1 : (l.take k).length = k := by rw [List.length_take]; omega
  have e2 : (l.drop k).length = l.length - k := by rw [List.length_drop]
  have R0 := Lib.hid (fun w' v (hb : Below w.heap.size w w') hR => root_a l v w' (hT.below hb) hl hll hR)
  have R1 := Lib.hid (fun w' v (hb : Below w.heap.size w w') (hR : Rd w' v k 32 (dcs (l.take k))) => root_a (l.take k) v w' (hT.below hb) (hl.take k) (by omega) (by rw [e1]; exact hR))
  have R2 := Lib.hid (fun w' v (hb : Below w.heap.size w w') (hR : Rd w' v (l.length - k) 32 (dcs (l.drop k))) => root_a (l.drop k) v w' (hT.below hb) (hl.drop k) (by omega) (by rw [e2]; exact hR))
  have hx1 := root_length _ (hl.take k)
  have hx2 := root_length _ (hl.drop k)
  obtain ⟨Y, hY⟩ : ∃ x, root nodeD (sha []) l = x := ⟨_, rfl⟩
  obtain ⟨X1, hX1⟩ : ∃ x, root nodeD (sha []) (l.take k) = x := ⟨_, rfl⟩
  obtain ⟨X2, hX2⟩ : ∃ x, root nodeD (sha []) (l.drop k) = x := ⟨_, rfl⟩
  rw [hY] at R0 hyl hrt
  rw [hX1] at R1 hx1 hrt
  rw [hX2] at R2 hx2 hrt
  have CN := Lib.hid (fun w' (hb : Below w.heap.size w w') => node_a X1 X2 w' (hT.below hb) hx1 hx2)
  rw [← hrt] at CN
  have CL := Lib.hid (fun w' (hb : Below w.heap.size w w') => leaf_a [] (.slice none 0 0) w' (hT.below hb) (Rd.nil w' 1) (by decide))
  have CS := Lib.hid (fun w' v (hb : Below w.heap.size w w') hR => sum_a [0] v w' (hT.below hb) hR (by decide))
  have hzl := leafD_length []
  obtain ⟨Z, hZ⟩ : ∃ x, leafD [] = x := ⟨_, rfl⟩
  rw [show sha [0] = Z from hZ] at CS
  rw [hZ] at CL hzl
  have HEY := Lib.hid (fun w' : World => run_equal_bv (P := Tryd.prog) w' (d := 9998) Tryd.underlying26 Tryd.underlying5 (by kernel_rfl) Y Y hyl hyl)
  have HEZ := Lib.hid (fun w' : World => run_equal_bv (P := Tryd.prog) w' (d := 9998) Tryd.underlying26 Tryd.underlying5 (by kernel_rfl) Z Z hzl hzl)
  have HS0 := (((Sep.start w).arg0 hR).arg0 HR1).arg0 HR2
  obtain ⟨A0, c0, rfl, _, _⟩ := hR.shape
  obtain ⟨T1, hT1⟩ : ∃ x, l.take k = x := ⟨_, rfl⟩
  obtain ⟨T2, hT2⟩ : ∃ x, l.drop k = x := ⟨_, rfl⟩
  obtain ⟨m, hm⟩ : ∃ x, l.length - k = x := ⟨_, rfl⟩
  rw [hT1] at R1
  rw [hT1, hT2, hm] at HS0
  rw [hT2, hm] at R2
  rw [hm] at hs2
  have HSL1 := Lib.hid hs1
  have HSL2 := Lib.hid hs2
  have k1 : ¬ (l.length : Int) < 2 := by omega
  have k2 : (0 : Int) < (k : Int) := by omega
  have k3 : (k : Int) < (l.length : Int) := by omega
  have HA : True := trivial
  clear e1 e2 hT1 hT2 hm hl hk hrt hX1 hX2 hY hZ hx1 hx2 hyl hzl hs1 hs2 HR1 HR2 hR
  go_enter Tryd.func5, Tryd.ntmps5
  go_wp2_with fail
  (with_reducible refine Calls.mono (CH.out w) ?_)
  rintro e w1 ⟨rfl, rfl⟩
  go_wp2
  refine Cop.region_ord (fun w' => True) 32 (.take 0 (.take 1 (.take 2 (.take 3 (.take 4 (.take 5 (.take 6 (.take 7 (.take 8 (.take 9 (.take 10 (.take 11 (.take 12 (.take 13 (.take 15 (.take 16 (.take 17 (.take 19 (.take 20 (.take 21 (.run 14 (.run 18 (.run 22 (.run 23 (.take 24 (.take 25 (.take 26 (.run2 27 (.run 28 (.run 29 (.take 30 (.take 31 (.take 32 Cop.Ord.fin))))) 28 (.run 27 (.run 29 (.take 30 (.take 31 (.take 32 Cop.Ord.fin))))))))))))))))))))))))))))))))) (by kernel_rfl) (by kernel_rfl) (fun _ _ d _ _ h => by cases d <;> exact h) ?_
  intro wa hda
  have HSa := HS0.keep hda
  (repeat (first | (refine Cop.og_skip rfl rfl HA _ (by (simp only [Act.put, List.setIfInBounds_toArray, List.set_cons_succ, List.set_cons_zero]; rfl)) ?_) | (refine Cop.og_take rfl rfl HA ?_; apply Exists.intro; refine ⟨fun w9 h9 => ?_, _, by (simp only [Act.put, List.setIfInBounds_toArray, List.set_cons_succ, List.set_cons_zero]; rfl), ?_⟩; (have e1 := HSL1.out w9; have e2 := HSL2.out w9; go_simp; with_reducible rfl))))
  refine Cop.og_run rfl rfl ?_
  refine ow_call 15 _ _ (fun w' => Below wa.heap.size wa w') (by go_simp) (R0.out wa _ HSa.hb (HSa.rd 2 rfl)) ?_
  intro wb bb
  have HSb := HSa.keep bb
  refine ⟨fun _ => HA, ?_⟩
  refine Cop.og_run rfl rfl ?_
  refine ow_call 15 _ _ (fun w' => Below wb.heap.size wb w') (by go_simp) (R1.out wb _ HSb.hb (HSb.rd 1 rfl)) ?_
  intro wc bc
  have HSc := HSb.keep bc
  refine ⟨fun _ => HA, ?_⟩
  refine Cop.og_run rfl rfl ?_
  refine ow_call 15 _ _ (fun w' => Below wc.heap.size wc w') (by go_simp) (R2.out wc _ HSc.hb (HSc.rd 0 rfl)) ?_
  intro wd bd
  have HSd := HSc.keep bd
  refine ⟨fun _ => HA, ?_⟩
  refine Cop.og_run rfl rfl ?_
  refine ow_call 23 _ _ (fun w' => Below wd.heap.size wd w') (by go_simp) (CN.out wd HSd.hb) ?_
  intro we be
  have HSe := HSd.keep be
  refine ⟨fun _ => HA, ?_⟩
  (repeat (first | (refine Cop.og_skip rfl rfl HA _ (by (simp only [Act.put, List.setIfInBounds_toArray, List.set_cons_succ, List.set_cons_zero]; rfl)) ?_) | (refine Cop.og_take rfl rfl HA ?_; apply Exists.intro; refine ⟨fun w9 h9 => ?_, _, by (simp only [Act.put, List.setIfInBounds_toArray, List.set_cons_succ, List.set_cons_zero]; rfl), ?_⟩; (have q1 := HEY.out w9; go_simp; with_reducible rfl))))
  refine og_run2 ?_ ?_
  · refine Cop.og_run rfl rfl ?_
    refine ow_call 21 _ _ (fun w' => Below we.heap.size we w') (by go_simp) (CL.out we HSe.hb) ?_
    intro wf bf
    have HSf := HSe.keep bf
    refine ⟨fun _ => HA, ?_⟩
    refine Cop.og_run rfl rfl ?_
    refine ow_bs HSf 36 5 1 1 _ rfl (bl [0]) (.int .u8 0) Tryd.underlying36 (by kernel_rfl) (by decide) (by decide) (by kernel_rfl) rfl ?_
    intro g1 wg HSg
    refine ⟨fun _ => HA, ?_⟩
    refine Cop.og_run rfl rfl ?_
    refine ow_call 27 _ _ (fun w' => Below wg.heap.size wg w') (by go_simp) (CS.out wg _ HSg.hb (HSg.own 0 rfl).rd) ?_
    intro wh bh
    have HSh := HSg.keep bh
    refine ⟨fun _ => HA, ?_⟩
    (repeat (first | (refine Cop.og_skip rfl rfl HA _ (by (simp only [Act.put, List.setIfInBounds_toArray, List.set_cons_succ, List.set_cons_zero]; rfl)) ?_) | (refine Cop.og_take rfl rfl HA ?_; apply Exists.intro; refine ⟨fun w9 h9 => ?_, _, by (simp only [Act.put, List.setIfInBounds_toArray, List.set_cons_succ, List.set_cons_zero]; rfl), ?_⟩; (have q1 := HEZ.out w9; go_simp; with_reducible rfl))))
    refine og_fin ?_
    go_wp2
    go_ret
    exact ⟨rfl, HSh.hb⟩
  · refine Cop.og_run rfl rfl ?_
    refine ow_bs HSe 36 5 1 1 _ rfl (bl [0]) (.int .u8 0) Tryd.underlying36 (by kernel_rfl) (by decide) (by decide) (by kernel_rfl) rfl ?_
    intro g1 wf HSf
    refine ⟨fun _ => HA, ?_⟩
    refine Cop.og_run rfl rfl ?_
    refine ow_call 21 _ _ (fun w' => Below wf.heap.size wf w') (by go_simp) (CL.out wf HSf.hb) ?_
    intro wg bg
    have HSg := HSf.keep bg
    refine ⟨fun _ => HA, ?_⟩
    refine Cop.og_run rfl rfl ?_
    refine ow_call 27 _ _ (fun w' => Below wg.heap.size wg w') (by go_simp) (CS.out wg _ HSg.hb (HSg.own 0 rfl).rd) ?_
    intro wh bh
    have HSh := HSg.keep bh
    refine ⟨fun _ => HA, ?_⟩
    (repeat (first | (refine Cop.og_skip rfl rfl HA _ (by (simp only [Act.put, List.setIfInBounds_toArray, List.set_cons_succ, List.set_cons_zero]; rfl)) ?_) | (refine Cop.og_take rfl rfl HA ?_; apply Exists.intro; refine ⟨fun w9 h9 => ?_, _, by (simp only [Act.put, List.setIfInBounds_toArray, List.set_cons_succ, List.set_cons_zero]; rfl), ?_⟩; (have q1 := HEZ.out w9; go_simp; with_reducible rfl))))
    refine og_fin ?_
    go_wp2
    go_ret
    exact ⟨rfl, HSh.hb⟩
theorem treeHalves_walk (l : List (List UInt8)) (v : Value) (w : World) (hT : Tab w) (hl : AllD l) (hll : l.length ≤ 4398046510976) (hR : Rd w v l.length 32 (dcs l)) : Gives 5 #[v] w (.bool true) := by
  rcases Nat.lt_or_ge l.length 2 with h | h
  · match l, h with
    | [], _ => exact treeHalves_zero v w hT hR
    | [d], _ => exact treeHalves_one d v w hT (hl d (by simp)) hR
  · exact treeHalves_more l v w hT hl (by omega) h hR
set_option maxRecDepth 100000 in
theorem treeHalves_holds : Rows.TreeHalvesCardSaid := treeHalves.card_of_walk fun H enc W base v0 d0 p0 h0 k0 hsz hL => by
  obtain ⟨l, hR, hl, hll⟩ := open_dslice Tryd.underlying22 Tryd.underlying26 Tryd.underlying5 (by kernel_rfl) (by kernel_rfl) (by kernel_rfl) h0 k0 hsz 0 rfl rfl
  exact treeHalves_walk l v0 W (table_of hL) hl hll hR
#print axioms treeHalves_holds
end Go.Proofs.YtbdmehgbdnninaaDoor
