/- Proved here: any message under any key has the document's keyed digest, by Mac and by Extract; key and message stay as they were. The table of constants is tied to the program's text. No condition. -/
import Derived.Test.YtepcjdifjjombaaDoorTg
import Derived.Test.YtepcjdifjjombaaDoorFMacTells
namespace Go.Proofs.YtepcjdifjjombaaDoor
open Go.RowKit Cop
set_option linter.unusedVariables false
set_option linter.unusedSimpArgs false
theorem macref_b (k m : List UInt8) (vk vm : Value) (w : World) (hRk : Rd w vk k.length 1 (bl k)) (hRm : Rd w vm m.length 1 (bl m)) (hk : k.length ≤ 140737488351232) (hm : m.length ≤ 140737488351232) :
    Calls Tryd.prog 41 #[vk, vm] w fun e w' => e = .returned (.agg (bv (hmac k m))) ∧ Below w.heap.size w w' :=
  refmac_gen sha sha_length sum_b k m (hmac k m) (key64 k) (kpad (key64 k) 0x36) (kpad (key64 k) 0x5c) rfl rfl rfl rfl vk vm w hRk hRm hk hm
set_option maxRecDepth 100000 in
set_option maxHeartbeats 4000000 in
theorem macTells_walk (k m : List UInt8) (vk vm : Value) (w : World) (hT : Tab w) (hRk : Rd w vk k.length 1 (bl k)) (hRm : Rd w vm m.length 1 (bl m)) (hk : k.length ≤ 140737488351232) (hm : m.length ≤ 140737488351232) :
    Calls Tryd.prog 13 #[vk, vm] w fun e w' => e = .returned (.bool true) ∧ Below w.heap.size w w' := by
  have CA := Lib.hid (fun vk vm w hT h1 h2 => mac_a k m vk vm w hT h1 h2 (by omega) (by omega))
  have CE := Lib.hid (fun vk vm w hT h1 h2 => extract_a k m vk vm w hT h1 h2 (by omega) (by omega))
  have CB := Lib.hid (fun vk vm w h1 h2 => macref_b k m vk vm w h1 h2 hk hm)
  have hDl := hmac_length k m
  obtain ⟨D, hD⟩ : ∃ x, hmac k m = x := ⟨_, rfl⟩
  rw [hD] at CA CE CB hDl
  have heq := fun w' : World => run_equal_bv (P := Tryd.prog) w' (d := 9998) Tryd.underlying32 Tryd.underlying5 (by kernel_rfl) D D hDl hDl
  have HDL := Lib.hid hDl
  have HTB := hT.base
  have HS0 := (((Sep.start w).arg0 hRk).arg0 hRm).builtB 5 [] (by decide)
  obtain ⟨A, c, rfl, hc, hcm⟩ := hRk.shape
  obtain ⟨Am, cm, rfl, hc2, hcm2⟩ := hRm.shape
  obtain ⟨K, hK⟩ : ∃ x, k ++ [90] = x := ⟨_, rfl⟩
  obtain ⟨M, hM⟩ : ∃ x, m ++ [90] = x := ⟨_, rfl⟩
  have HKl := Lib.hid (show k.length + 1 = K.length by rw [← hK]; simp)
  have HMl := Lib.hid (show m.length + 1 = M.length by rw [← hM]; simp)
  have hkK : k.length ≤ K.length := by have := HKl.out; omega
  have hmM : m.length ≤ M.length := by have := HMl.out; omega
  have HK := Lib.hid hK
  have HM := Lib.hid hM
  clear hRk hRm hD hDl hK hM
  go_enter Tryd.func13, Tryd.ntmps13
  go_wp2_with (refine wl_apb (xs := []) HS0 0 rfl rfl rfl (HS0.rd 2 rfl) rfl rfl k.length k (by simp) rfl (by omega) ?_)
  intro v1 w1 HS1 _
  have HS2 := HS1.skip (.cells #[.int .u8 90] 5)
  have HR2 := rd_one w1 5 90 90 rfl
  go_wp2_with (refine wl_apb HS2 0 rfl rfl rfl HR2 rfl rfl K.length K HKl.out HK.out (by have := HKl.out; omega) ?_)
  intro v3 w3 HS3 _
  obtain ⟨A3, c3, rfl, hc3⟩ := (HS3.own 0 rfl).sl
  have HS4 := HS3.builtB 5 [] (by decide)
  clear HS0 HS1 HS2 HR2
  go_wp2_with (refine wl_apb (xs := []) HS4 0 rfl rfl rfl (HS4.rd 2 rfl) rfl rfl m.length m (by simp) rfl (by omega) ?_)
  intro v5 w5 HS5 _
  have HS6 := HS5.skip (.cells #[.int .u8 90] 5)
  have HR6 := rd_one w5 5 90 90 rfl
  go_wp2_with (refine wl_apb HS6 0 rfl rfl rfl HR6 rfl rfl M.length M HMl.out HM.out (by have := HMl.out; omega) ?_)
  intro v7 w7 HS7 _
  obtain ⟨A7, c7, rfl, hc7⟩ := (HS7.own 0 rfl).sl
  clear HS3 HS4 HS5 HS6 HR6
  go_wp2_with fail
  refine (CB.out _ _ w7 (HS7.rd 3 rfl) (HS7.rd 2 rfl)).mono ?_
  rintro e w8 ⟨rfl, b8⟩
  have HS8 := HS7.keep b8
  go_wp2_with (first | refine wl_al HS8 rfl 32 rfl (bv (List.replicate 32 0)) (by kernel_rfl) ?_)
  intro g9 w9 HS9
  go_wp2_with (first | refine wl_st HS9 0 rfl rfl 32 _ _ rfl rfl rfl (by rw [bv_size, HDL.out]; exact info_dg) (by rw [bv_size, bv_size, HDL.out]; rfl) (bv_one _) ?_)
  intro wa HSa
  obtain ⟨Ak, ck, hck, hmk, HRk, _, hsk⟩ := rd_to (HSa.own 2 rfl).rd Tryd.underlying30 info_u8' k.length hkK
  obtain ⟨Aq, cq, hcq, hmq, HRq, _, hsq⟩ := rd_to (HSa.own 1 rfl).rd Tryd.underlying30 info_u8' m.length hmM
  rw [← HK.out, List.take_left' rfl] at HRk
  rw [← HM.out, List.take_left' rfl] at HRq
  have HSK := Lib.hid hsk
  have HSQ := Lib.hid hsq
  clear HS7 HS8 HS9 hsk hsq
  go_wp2_with fail
  refine Cop.region_ord (fun w' => Sep w.heap.size w w' [.row g9 (bv D) 32]) 24 (.take 0 (.take 1 (.take 2 (.take 3 (.take 4 (.take 5 (.take 6 (.take 7 (.take 9 (.run 8 (.take 10 (.take 11 (.take 12 (.take 13 (.take 14 (.take 15 (.take 16 (.take 17 (.take 18 (.take 19 (.take 21 (.run 20 (.take 22 (.take 23 (.take 24 Cop.Ord.fin))))))))))))))))))))))))) (by kernel_rfl) (by kernel_rfl) (fun _ _ d _ _ h => by cases d <;> exact h) ?_
  intro wb hd
  have HSb := HSa.keep hd
  have HT1 := HSb.one 0 rfl
  (repeat (first | (refine Cop.og_skip rfl rfl HT1 _ (by (simp only [Act.put, List.setIfInBounds_toArray, List.set_cons_succ, List.set_cons_zero]; rfl)) ?_) | (refine Cop.og_ld rfl rfl HT1 32 _ rfl (.pointer (some ⟨g9, 0, none⟩)) rfl _ (fun w9 h9 => load_row (h9.row 0 rfl) 32 Tryd.underlying32 rfl (by rw [bv_size, HDL.out]; exact info_dg)) _ (by (simp only [Act.put, List.setIfInBounds_toArray, List.set_cons_succ, List.set_cons_zero]; rfl)) ?_) | (refine Cop.og_take rfl rfl HT1 ?_; apply Exists.intro; refine ⟨fun w9 h9 => ?_, _, by (simp only [Act.put, List.setIfInBounds_toArray, List.set_cons_succ, List.set_cons_zero]; rfl), ?_⟩; (have e := HSK.out; have e2 := HSQ.out; go_simp; with_reducible rfl))))
  refine Cop.og_run rfl rfl ?_
  refine ow_call 42 _ _ (fun w' => Below wb.heap.size wb w') (by go_simp) (CA.out _ _ wb (HTB _ HSb.hb) (HRk.below hd) (HRq.below hd)) ?_
  intro wc bc
  have HSc := HSb.keep bc
  have HT2 := HSc.one 0 rfl
  refine ⟨fun _ => HT2, ?_⟩
  (repeat (first | (refine Cop.og_skip rfl rfl HT2 _ (by (simp only [Act.put, List.setIfInBounds_toArray, List.set_cons_succ, List.set_cons_zero]; rfl)) ?_) | (refine Cop.og_ld rfl rfl HT2 32 _ rfl (.pointer (some ⟨g9, 0, none⟩)) rfl _ (fun w9 h9 => load_row (h9.row 0 rfl) 32 Tryd.underlying32 rfl (by rw [bv_size, HDL.out]; exact info_dg)) _ (by (simp only [Act.put, List.setIfInBounds_toArray, List.set_cons_succ, List.set_cons_zero]; rfl)) ?_) | (refine Cop.og_take rfl rfl HT2 ?_; apply Exists.intro; refine ⟨fun w9 h9 => ?_, _, by (simp only [Act.put, List.setIfInBounds_toArray, List.set_cons_succ, List.set_cons_zero]; rfl), ?_⟩; (have e := HSK.out; have e2 := HSQ.out; have q := heq w9; go_simp; with_reducible rfl))))
  refine Cop.og_run rfl rfl ?_
  refine ow_call 43 _ _ (fun w' => Below wc.heap.size wc w') (by go_simp) (CE.out _ _ wc (HTB _ HSc.hb) ((HRk.below hd).below bc) ((HRq.below hd).below bc)) ?_
  intro wd bd
  have HSd := HSc.keep bd
  have HT3 := HSd.one 0 rfl
  refine ⟨fun _ => HT3, ?_⟩
  (repeat (first | (refine Cop.og_skip rfl rfl HT3 _ (by (simp only [Act.put, List.setIfInBounds_toArray, List.set_cons_succ, List.set_cons_zero]; rfl)) ?_) | (refine Cop.og_take rfl rfl HT3 ?_; apply Exists.intro; refine ⟨fun w9 h9 => ?_, _, by (simp only [Act.put, List.setIfInBounds_toArray, List.set_cons_succ, List.set_cons_zero]; rfl), ?_⟩; (have q := heq w9; go_simp; with_reducible rfl))))
  refine og_fin ?_
  have s1 := Rd.string (P := Tryd.prog) (HSd.own 2 rfl).rd Tryd.underlying30 Tryd.underlying5 Tryd.underlying9
  have s2 := Rd.string (P := Tryd.prog) (HSd.rd 4 rfl) Tryd.underlying30 Tryd.underlying5 Tryd.underlying9
  have s3 := Rd.string (P := Tryd.prog) (HSd.own 1 rfl).rd Tryd.underlying30 Tryd.underlying5 Tryd.underlying9
  have s4 := Rd.string (P := Tryd.prog) (HSd.rd 3 rfl) Tryd.underlying30 Tryd.underlying5 Tryd.underlying9
  unfold sv at s1 s2 s3 s4
  have hb1 := bytes_eq K k 90 HK.out
  have hb2 := bytes_eq M m 90 HM.out
  clear HSa HSb HSc HT1 HT2 HT3 HRk HRq
  go_wp2
  go_ret
  exact ⟨rfl, HSd.hb⟩
theorem macTells_holds : Rows.MacTellsCardSaid := macTells.card_of_walk fun H enc W base v0 v1 d0 d1 p0 p1 h0 k0 h1 k1 hsz hL => by
  obtain ⟨l, hR, hl⟩ := open_bslice Tryd.underlying30 Tryd.underlying5 (by kernel_rfl) (by kernel_rfl) h0 k0 hsz 0 rfl rfl
  obtain ⟨l1, hR1, hl1⟩ := open_bslice Tryd.underlying30 Tryd.underlying5 (by kernel_rfl) (by kernel_rfl) h1 k1 hsz 1 rfl rfl
  exact macTells_walk l l1 v0 v1 W (table_of hL) hR hR1 hl hl1
#print axioms macTells_holds
end Go.Proofs.YtepcjdifjjombaaDoor
